/- Walks over abstract states: the state graph, both sides. -/
import Derived.Test.YtgpdhgadmjfokaaGreatBWp
set_option linter.unusedSimpArgs false
set_option linter.unusedVariables false
set_option linter.unusedSectionVars false
namespace Go.Proofs.YtgpdhgadmjfokaaGreat
open Go.RowKit
set_option maxRecDepth 100000
set_option maxHeartbeats 4000000
def UI:Nat→List ByteArray→List UInt8→List ByteArray
 | _,c,[]=>c
 | i,c,v :: vs=>UI (i+1) (c.set i ((c[i]?).getD ByteArray.empty++⟨#[v]⟩)) vs
def goS (n:Nat)(arcs:List DAr):Nat→Nat→List ByteArray→Option (List ByteArray)
 | 0,_,c=>some c
 | f+1,k,c=>if (VR n arcs (k:Int)).2=true then goS n arcs f (k+1) (UI 0 c (VR n arcs (k:Int)).1) else none
section
variable {n f k i m:Nat}{arcs:List DAr}{c codes:List ByteArray}{vs us:List UInt8}{v:UInt8}{x:ByteArray}
theorem Qgg (hv:vs[i]? =some v)(a:c[i]? =some x):UI i c (vs.drop i)=UI (i+1) (c.set i (x++⟨#[v]⟩)) (vs.drop (i+1)):=by
 rw[Yd hv,UI,a]
 rfl
theorem QrH (h:vs.length≤i):UI i c (vs.drop i)=c:=by rw[bJ h,UI]
theorem QjI:∀(i:Nat) (c:List ByteArray) (vs:List UInt8),(UI i c vs).length=c.length
 | _,_,[]=>by rw[UI]
 | i,c,v :: vs=>by rw[UI,QjI]; simp
theorem Qxx (a:k < m)(h:(VR n arcs (k:Int)).2=true):goS n arcs (m - k) k c=goS n arcs (m - (k+1)) (k+1) (UI 0 c (VR n arcs (k:Int)).1):=by
 rw[show m - k=(m - (k+1))+1 by omega,goS,if_pos h]
theorem Qdy (a:m≤k):goS n arcs (m - k) k c=some c:=by rw[show m - k=0 by omega,goS]
theorem Qs0 {j:Nat}(h:(VR n arcs (j:Int)).2=false)(d:k≤j)(b:j < k+f):goS n arcs f k c=none:=by
 induction f generalizing k c with
 | zero=>omega
 | succ f a=>
  rw[goS]
  by_cases e:j=k
  ·subst e; rw[if_neg (by rw[h]; decide)]
  ·split
   ·exact a (by omega) (by omega)
   ·rfl
theorem Ql8 (e:∀a∈arcs,InR n a)(sig:Int):(VR n arcs sig).2=(l5V n arcs sig).2:=by
 rcases QeK (sig:=sig) e with ⟨b,d,_⟩ | ⟨us,b,_,d⟩
 ·rw[b,d]
 ·rw[b,d]
theorem Qk8 (h:¬0 < ((WI n arcs m).length:Int))(d:k < m):(l5V n arcs (k:Int)).2=true:=by
 induction m with
 | zero=>omega
 | succ m b=>
  simp only[WI,ae] at h
  by_cases e:k=m
  ·subst e
   cases a:(l5V n arcs (k:Int)).2 with
   | true=>rfl
   | false=>rw[a] at h; simp at h
  ·exact b (by omega) (by omega)
theorem KC (e:∀a∈arcs,InR n a)(h:0 < ((WI n arcs m).length:Int)):goS n arcs m 0 c=none:=by
 have:∃j,j < m∧(l5V n arcs (j:Int)).2=false:=by
  induction m with
  | zero=>simp[WI] at h
  | succ m g=>
   simp only[WI,ae] at h
   cases b:(l5V n arcs (m:Int)).2 with
   | false=>exact ⟨m,by omega,b⟩
   | true=>
    rw[b] at h
    obtain ⟨j,o,d⟩:=g (by simpa using h)
    exact ⟨j,by omega,d⟩
 obtain ⟨j,l,b⟩:=this
 exact Qs0 ((Ql8 e _).trans b) (aS _) (by omega)
theorem Qq6 (e:∀a∈arcs,InR n a)(sig:Int):(VR n arcs sig).1.length≤n:=by
 rcases QeK (sig:=sig) e with ⟨_,_,_,b⟩ | ⟨us,_,d,b⟩
 ·rw[b]; exact aS _
 ·rw[b,aC,d]; exact aO _
theorem QiP {b:Nat}{y:ByteArray}(h:∀z∈c,z.size≤b)(d:c[i]? =some x)(g:y.size≤x.size+1):∀z∈c.set i y,z.size≤b+1:=fun z e=>by
 rcases cu e with a | a
 ·exact da (h z a)
 ·rw[a]; have:=h x (ah d); omega
theorem VP {ls:List Zb}{b:List DMv}{q:Nat}(h:∀v∈b,MvOk n q v):∀a∈QP ls b,InR n a:=fun a g=>by
 obtain ⟨v,j,rfl⟩:=aR.1 g
 obtain ⟨d,_,e⟩:=h v j
 exact ⟨d,e⟩
theorem Qxp {sig:Int}(g:∀a∈arcs,InR n a)(h:(l5V n arcs sig).2=true):∃us:List UInt8,(l5V n arcs sig).1=⟨us.toArray⟩∧us.length=n∧(l5V n arcs sig).1.size=n∧VR n arcs sig=(us.map q0,true):=by
 rcases QeK (sig:=sig) g with ⟨b,_⟩ | ⟨us,b,d,e⟩
 ·rw[b] at h; cases h
 ·exact ⟨us,by rw[b],d,by rw[b,← d]; rfl,e⟩
theorem QdL (b:ByteArray)(i:Nat):(b.extract i (i+1)).size≤1:=by simp only[aW]; omega
theorem QyN (d:us[i]? =some v):(⟨us.toArray⟩:ByteArray).extract i (i+1)=⟨#[v]⟩:=by
 apply ByteArray.ext
 simp only[ByteArray.data_extract]
 obtain ⟨e,a⟩:=ai.1 d
 apply Array.ext
 ·simp; omega
 ·intro j g b
  have:j=0:=by simp at b; omega
  subst this
  simp[a]
theorem QvA (a:us[i]? =some v):(us.map q0)[i]? =some (q0 v):=by rw[bc,a]; rfl
theorem Qrz {b:ByteArray}(hb:b=⟨us.toArray⟩)(hi:i < us.length)(g:decide (b.extract i (i+1)=⟨#[63]⟩)=true)(h:c[i]? =some x):UI i c ((us.map q0).drop i)=UI (i+1) (c.set i (x++⟨#[48]⟩)) ((us.map q0).drop (i+1)):=by
 have d:=ak hi
 have a:=ab g
 rw[hb,QyN d] at a
 have e:us[i]=63:=by
  have:=congrArg (fun b:ByteArray=>b.data[0]?) a
  simpa using this
 have:=Qgg (QvA d) h
 rwa [show q0 us[i]=48 by rw[e]; rfl] at this
theorem Qq2 {b:ByteArray}(hb:b=⟨us.toArray⟩)(hi:i < us.length)(g:decide (b.extract i (i+1)=⟨#[63]⟩)=false)(h:c[i]? =some x):UI i c ((us.map q0).drop i)=UI (i+1) (c.set i (x++b.extract i (i+1))) ((us.map q0).drop (i+1)):=by
 have d:=ak hi
 have a:=aa g
 rw[hb,QyN d] at a ⊢
 have:=Qgg (QvA d) h
 rwa [show q0 us[i]=us[i] by unfold q0; rw[if_neg]; intro e; exact a (by rw[e])] at this
theorem QqW (h:us.length≤i):UI i c ((us.map q0).drop i)=c:=QrH (by simpa using h)
end
section
variable [∀s,Decidable (StgOk s)]{s:Q5}{c:List ByteArray}
def X4:List (ByteArray×Int)×List ByteArray×List DAr:=([],[],[])
def sgV (s:Q5):(List (ByteArray×Int)×List ByteArray×List DAr)×Bool:=
 if (Qq s).2=true∧¬4000 < (Qq s).1.2.length then
  (match goS (Qq s).1.1.length (QP s.2.2.1 (Qq s).1.2) s.2.1.length 0 (List.replicate (Qq s).1.1.length ByteArray.empty) with
  | some c=>((s.2.1,c,QP s.2.2.1 (Qq s).1.2),true)
  | none=>(X4,false))
 else (X4,false)
theorem Qdp (h:(Qq s).2=false):sgV s=(X4,false):=if_neg fun a=>by rw[h] at a; cases a.1
theorem QdN (h:(4000:Int) < ((Qq s).1.2.length:Int)):sgV s=(X4,false):=if_neg fun a=>a.2 (by omega)
theorem Qdl (h:goS (Qq s).1.1.length (QP s.2.2.1 (Qq s).1.2) s.2.1.length 0 (List.replicate (Qq s).1.1.length ByteArray.empty)=none):sgV s=(X4,false):=by
 unfold sgV
 rw[h]
 split <;> rfl
theorem Qbp (a:(Qq s).2=true)(b:¬(4000:Int) < ((Qq s).1.2.length:Int))(h:goS (Qq s).1.1.length (QP s.2.2.1 (Qq s).1.2) s.2.1.length 0 (List.replicate (Qq s).1.1.length ByteArray.empty)=some c):
 sgV s=((s.2.1,c,QP s.2.2.1 (Qq s).1.2),true):=by
 unfold sgV
 rw[if_pos ⟨a,by omega⟩,h]
end
theorem Wf (s:QlQ)[∀s,Decidable (StgOk s)]:FC Tryz.prog 143 [(true,[dI s.1.1, .dat X7 s.1.2, .dat Ql s.2.1, .dat YQ s.2.2.1,dS s.2.2.2])] [] 0 (Is (PV.tup [(true,[.ref 0, .ref 1, .ref 2]),(false,[dB ((sgV s).2)])]) [ar 0 44 Qz (((sgV s).1).1),ar 1 9 .str (((sgV s).1).2.1),ar 2 46 Qs (((sgV s).1).2.2)]):=by
 refine Qt Tryz.func143 rfl rfl Tryz.ntmps143 fun O_ T b9 a5 X_ a7 a6=> ?_
 refine acG 0 0 fun _=> ?_
 refine w_ ?_
 refine xbx 0 ?_
 refine lc (xal 1 X2 ZC) ?_
 refine w4 ?_
 refine lc (dG 2 (Qdk s) Qmg) ?_
 refine w3 ?_
 refine lc (xal 4 QxW QiC) ?_
 refine w8 ?_
 cases b2:((Qq s).2)
 refine w15 ?_
 refine lc (Qg ZU rfl (au.1 rfl) rfl rfl) ?_
 refine w3 ?_
 refine AC.wk (Qn 5 (p:=1) (off:=0) 44 Qz rfl rfl (Fresh.of rfl) (nlr rfl))<|AC.wk (Qn 6 (p:=1) (off:=1) 9 .str rfl rfl (Fresh.of rfl) (nlr rfl))<|AC.wk (Qn 7 (p:=1) (off:=2) 46 Qs rfl rfl (Fresh.of rfl) (nlr rfl))<|Qd ?_
 have e3:(false:Bool)=((sgV s).2):=by
  (rw[Qdp ‹_›]; done)
 exact fi_ [(0,5),(1,6),(2,7)] T ⟨(Qe (by (rw[Qdp ‹_›]; rfl))),(Qe (by (rw[Qdp ‹_›]; rfl))),(Qe (by (rw[Qdp ‹_›]; rfl))),trivial⟩ (h0:=by rw[← e3] <;> rfl)
 refine w2 ?_
 refine lgy rfl rfl (Yr 8 (Qde s ((Qq s).1) (Yq (s:=s) ‹_›).2.2.2.2.1 (by have:=(Yq (s:=s) ‹_›).2.2.1; omega) (by have:=Kc (Yq (s:=s) ‹_›).1.sigs; omega)) Qk0 ⟨_,_,rfl,(Ev.b (Qo rfl)),⟨_,_,rfl,(XI (Qo rfl) ⟨_,_,rfl, .inr ⟨_,_,_,_,rfl,rfl,rfl⟩,⟨_,_,rfl, .inr ⟨_,_,_,_,rfl,rfl,rfl⟩,rfl⟩⟩),rfl⟩⟩ rfl (Fresh.of rfl) (nlr rfl)) ?_
 refine w4 ?_
 cases I:(decide (0 < ((WI ((Qq s).1).1.length (QP s.2.2.1 ((Qq s).1).2) s.2.1.length).length:Int)))
 have J:=aa I
 refine w6 ?_
 refine cd_ (fun _ _=> ?_) fun _ _=> ?_
 refine w_ ?_
 obtain ⟨a2,a9,b0,b1,D,a8⟩:=Yq (s:=s) ‹_›
 have a0:=VP (ls:=s.2.2.1) D
 have b6:=Kc a2.sigs
 apply dW [⟨some 36,lR 9,[ar 9 44 Qz ([])]⟩,io 37 (lP 0 2),io 38 (lf (.dat Ql s.2.1)),⟨some 39,lR 10,[ar 10 44 Qz (([])++s.2.1),(9,none)]⟩,io 40 (lP 4 0),io 41 (lR 2),io 42 (lI ((((Qq s).1).1).length:Int)),⟨some 43,lR 11,[ar 11 9 .str (List.replicate ((((Qq s).1).1).length) (Ty.zero .str))]⟩,io 44 (ag [.ref 10, .ref 11, .val (.slice none 0 0)]),⟨some 6,lP 12 0,[bx 12 27 [.val (.slice none 0 0), .val (.slice none 0 0), .val (.slice none 0 0)]]⟩,⟨none,lf (.val undef),[bx 12 27 [.ref 10, .ref 11, .val (.slice none 0 0)]]⟩] [0,1,1,0,15,15,15,15,0,511,0]
 refine zz (fun _ d=>ac (dBs 9 (e:=Qz) WA) rfl) ?_
 refine z2 ?_
 refine zz (fun _ d=>ac (QU 10 (d.v rfl) (d.en 9 rfl) (Evl.rep (d.v rfl)) rfl JT UG (by first | omega | (simp only[ae,aC,ap,aj,aA]; omega) | (simp only[ae,bo,ap,aj,aA]; omega)) rfl (d.fr 10 rfl) (nlr rfl)) rfl) ?_
 refine z3 ?_
 refine zz (fun _ d=>ac (Wm 11 (e:= .str) (n:=(((Qq s).1).1).length) (d.v rfl) (d.v rfl) UF Qyg rfl (by omega) (by omega) rfl (d.fr 11 rfl) (nlr rfl)) rfl)<|zz (fun _ d=>ac (Qg ZU ⟨_,_,rfl,(d.w rfl),⟨_,_,rfl,(d.w rfl),rfl⟩⟩ (au.1 (by simp only[QQ,Xz,aY,br]; rw[(d.en 10 rfl),(d.en 11 rfl)]; rfl)) rfl rfl) rfl)<|zz (fun _ d=>ac (Xq 12 X2 ZC rfl rfl (d.fr 12 rfl) (nlr rfl)) rfl)<|zz (fun _ d=>ac (QO (d.v rfl) (d.en 12 rfl) (d.w rfl) (by simp only[QQ,Xz,aY,br]; rw[(d.en 10 rfl),(d.en 11 rfl)]; rfl) YL rfl) rfl) ?_
 exact zN
 refine w4 ?_
 refine alL 46 fun _=> ?_
 refine w4 ?_
 refine QL (fun O Q=>∃(k:Nat) (codes:List ByteArray),k≤s.2.1.length∧O=s.2.1.length - k∧(goS (Qq s).1.1.length (QP s.2.2.1 (Qq s).1.2) s.2.1.length 0 (List.replicate (Qq s).1.1.length ByteArray.empty)=goS (Qq s).1.1.length (QP s.2.2.1 (Qq s).1.2) (s.2.1.length - k) k codes)∧(codes.length=(Qq s).1.1.length)∧(∀c∈codes,c.size≤300*k)∧Q=⟨[(1,lP 0 0),(2,lP 1 0),(3,lB false),(4,lP 4 0),(6,lP 12 0),(47,lI (s.2.1.length:Int)),(48,lI (k:Int))],[bx 0 62 [dI s.1.1, .dat X7 s.1.2, .dat Ql s.2.1, .dat YQ s.2.2.1,dS s.2.2.2],bx 1 27 [.val (.slice none 0 0), .val (.slice none 0 0), .val (.slice none 0 0)],ar 2 9 .str (((Qq s).1).1),ar 3 263 Wg (((Qq s).1).2),bx 4 160 [.ref 2, .ref 3],ar 10 44 Qz (([])++s.2.1),bx 12 27 [.ref 10, .ref 13, .val (.slice none 0 0)],ar 13 9 .str codes]⟩) ⟨0,List.replicate ((((Qq s).1).1).length) (Ty.zero .str),aS _,rfl,rfl,(by simp),(fun c Z=>by rw[cW Z]; exact aS _),rfl⟩ ?_ ?_
 exact wp [(13,11)] ⟨rfl,rfl,rfl,rfl,rfl,rfl,rfl,(Qe (by first | rfl | simp)),trivial⟩
 rintro O Q ⟨k,codes,b3,b4,H,hL,hZ,rfl⟩
 refine w4 ?_
 cases K:(decide ((k:Int) < (s.2.1.length:Int)))
 have L:=aa K
 refine w11 ?_
 refine AC.wk (Qn 14 (p:=12) (off:=2) 46 Qs rfl rfl (Fresh.of rfl) (nlr rfl)) ?_
 refine lp0 ((((Qq s).1).2).length) (fun j=>⟨[(1,lP 0 0),(2,lP 1 0),(3,lB false),(6,lP 12 0),(82,lR 3),(83,lI ((((Qq s).1).2).length:Int)),(84,lI (j:Int))],[bx 0 62 [dI s.1.1, .dat X7 s.1.2, .dat Ql s.2.1, .dat YQ s.2.2.1,dS s.2.2.2],bx 1 27 [.val (.slice none 0 0), .val (.slice none 0 0), .val (.slice none 0 0)],ar 3 263 Wg (((Qq s).1).2),ar 10 44 Qz (([])++s.2.1),bx 12 27 [.ref 10, .ref 13, .ref 15],ar 13 9 .str codes,ar 15 46 Qs ((((Qq s).1).2.take j).map (Qoj s.2.2.1))]⟩) ?_ fun j _=> ?_
 exact wp [(15,14)] ⟨rfl,rfl,rfl,rfl,rfl,rfl,(Qe (by first | rfl | simp)),trivial⟩
 refine w4 ?_
 cases y:(decide ((j:Int) < ((((Qq s).1).2).length:Int)))
 have E:=aa y
 refine w9 ?_
 have W:(true:Bool)=((sgV s).2):=by
  (rw[Qbp ‹_› ‹_› (H.trans (Qdy (by omega)))]; done)
 exact fi_ [(0,10),(1,13),(2,15)] T ⟨(Qe (by (rw[Qbp ‹_› ‹_› (H.trans (Qdy (by omega)))]; rfl))),(Qe (by (rw[Qbp ‹_› ‹_› (H.trans (Qdy (by omega)))]; done))),(Qe (by (rw[Qbp ‹_› ‹_› (H.trans (Qdy (by omega))),QH (by omega)]; rfl))),trivial⟩ (h0:=by rw[← W] <;> rfl)
 have E:=ab y
 refine w6 ?_
 obtain ⟨P,B⟩:=gx (((Qq s).1).2) j
 have b5:=(D _ (ah B)).2.1
 refine w_ ?_
 refine lc (xal 16 Wg KI) ?_
 refine w7 ?_
 refine alI 91 fun _=> ?_
 obtain ⟨t,N⟩:=gx s.2.2.1 ((P.2.1).toNat)
 have a1:=Qhy N
 refine w2 ?_
 refine lc (xal 17 Qy Y8) ?_
 refine w7 ?_
 refine alI 97 fun _=> ?_
 refine w2 ?_
 refine alI 99 fun _=> ?_
 refine w4 ?_
 refine alI 103 fun _=> ?_
 refine lc (Qg QcF ⟨_,_,rfl,(Qo rfl),⟨_,_,rfl,(Qo rfl),⟨_,_,rfl,(Qo rfl),⟨_,_,rfl,(Qo rfl),rfl⟩⟩⟩⟩ (au.1 rfl) rfl rfl) ?_
 refine lc (dBs 18 (e:=Qs) Zg (hab:=by exact ⟨_,_,_,_,rfl,⟨[dI P.1],[dI t.1,dB t.2,dI P.2.2],_,_,_,_,rfl,rfl,⟨rfl,rfl⟩,⟨[dI t.1],[dB t.2,dI P.2.2],_,_,_,_,rfl,rfl,⟨rfl,rfl⟩,⟨[dB t.2],[dI P.2.2],_,_,_,_,rfl,rfl,⟨rfl,rfl⟩,⟨rfl,rfl⟩,rfl⟩,rfl⟩,rfl⟩,⟨rfl,rfl⟩,rfl⟩)) ?_
 refine lc (dA 19 UM) ?_
 refine w2 ?_
 refine Qb ?_
 refine w4 ?_
 refine Qb ?_
 refine l0_ ?_
 exact wp [(15,19)] ⟨rfl,rfl,rfl,rfl,rfl,rfl,(Qe (by rw[QG B]; simp[Qoj,a1])),trivial⟩
 have L:=ab K
 refine w12 ?_
 refine lc (YF (U9 s ((Qq s).1) (k:Int) D (by omega)) Qeg ⟨_,_,rfl,(Ev.b (Qo rfl)),⟨_,_,rfl,(XI (Qo rfl) ⟨_,_,rfl, .inr ⟨_,_,_,_,rfl,rfl,rfl⟩,⟨_,_,rfl, .inr ⟨_,_,_,_,rfl,rfl,rfl⟩,rfl⟩⟩),⟨_,_,rfl,(Ev.b (Qo rfl)),rfl⟩⟩⟩ rfl rfl rfl) ?_
 refine w6 ?_
 refine Yo ?_
 obtain ⟨us,u,b7,b8,M⟩:=Qxp (sig:=(k:Int)) a0 (Qk8 (m:=s.2.1.length) ‹_› (by omega))
 refine w7 ?_
 refine QL (fun O Q=>∃(i:Nat) (a:List ByteArray),i≤codes.length∧O=codes.length - i∧(UI 0 codes (us.map q0)=UI i a ((us.map q0).drop i))∧(a.length=(Qq s).1.1.length)∧(∀c∈a,c.size≤300*k+i)∧Q=⟨[(1,lP 0 0),(2,lP 1 0),(3,lB false),(4,lP 4 0),(6,lP 12 0),(7,lI (k:Int)),(8,lf (dS ((l5V ((Qq s).1).1.length (QP s.2.2.1 ((Qq s).1).2) (k:Int)).1))),(47,lI (s.2.1.length:Int)),(48,lI (k:Int)),(49,lB true),(50,lI (k:Int)),(51,PV.tup [(false,[dS ((l5V ((Qq s).1).1.length (QP s.2.2.1 ((Qq s).1).2) (k:Int)).1)]),(false,[dB ((l5V ((Qq s).1).1.length (QP s.2.2.1 ((Qq s).1).2) (k:Int)).2)])]),(52,ag [dI s.1.1, .dat X7 s.1.2, .dat Ql s.2.1, .dat YQ s.2.2.1,dS s.2.2.2]),(53,ag [.ref 2, .ref 3]),(54,lI (k:Int)),(55,PV.tup [(false,[dS ((l5V ((Qq s).1).1.length (QP s.2.2.1 ((Qq s).1).2) (k:Int)).1)]),(false,[dB ((l5V ((Qq s).1).1.length (QP s.2.2.1 ((Qq s).1).2) (k:Int)).2)])]),(56,lf (dS ((l5V ((Qq s).1).1.length (QP s.2.2.1 ((Qq s).1).2) (k:Int)).1))),(57,lB ((l5V ((Qq s).1).1.length (QP s.2.2.1 ((Qq s).1).2) (k:Int)).2)),(58,lP 12 1),(60,lI (codes.length:Int)),(61,lI (i:Int))],[bx 0 62 [dI s.1.1, .dat X7 s.1.2, .dat Ql s.2.1, .dat YQ s.2.2.1,dS s.2.2.2],bx 1 27 [.val (.slice none 0 0), .val (.slice none 0 0), .val (.slice none 0 0)],ar 2 9 .str (((Qq s).1).1),ar 3 263 Wg (((Qq s).1).2),bx 4 160 [.ref 2, .ref 3],ar 10 44 Qz (([])++s.2.1),bx 12 27 [.ref 10, .ref 20, .val (.slice none 0 0)],ar 20 9 .str a]⟩) ⟨0,codes,aS _,rfl,rfl,hL,hZ,rfl⟩ ?_ ?_
 exact wo [(20,13)]
 rintro O Q ⟨i,a,a3,a4,q,C,r,rfl⟩
 refine w4 ?_
 cases z:(decide ((i:Int) < (codes.length:Int)))
 have F:=aa z
 refine w6 ?_
 refine Qb<|Q2 ⟨k+1,a,by omega,rfl,(by rw[H,Qxx (by omega) (by rw[M])]; exact congrArg _ (by rw[M]; exact q.trans (QqW (by omega)))),C,(fun c Z=>bl (r c Z) (by omega)),rfl⟩ (by omega) ?_
 exact wo [(13,20)]
 have F:=ab z
 refine w13 ?_
 refine lc (show Does _ _ _ _ (St.put _ 68 (lf (dS (((l5V ((Qq s).1).1.length (QP s.2.2.1 ((Qq s).1).2) (k:Int)).1).extract ((i:Int)).toNat ((i:Int)+1).toNat)))) from Zj (l:=(some (i:Int))) (h:=(some ((i:Int)+1))) (Qa rfl) (by exact (Qa rfl)) (by exact (Qa rfl)) Zf rfl (by first | omega | (simp only[av,ao]; omega)) (by first | omega | (simp only[av,ao]; omega)) (by first | omega | (simp only[av,ao]; omega))) ?_
 refine w7 ?_
 cases A:(decide ((((l5V ((Qq s).1).1.length (QP s.2.2.1 ((Qq s).1).2) (k:Int)).1).extract ((i:Int)).toNat ((i:Int)+1).toNat)=(⟨#[63]⟩:ByteArray)))
 have G:=aa A
 refine w7 ?_
 obtain ⟨R,g⟩:=gx a i
 have U:=r _ (ah g)
 refine w2 ?_
 refine lc (Zn (Qa rfl) (Qa rfl) rfl (by first | (simp only[Xt]; omega) | (refine bl (Nat.add_le_add_left (QdL _ i) _) ?_; omega))) ?_
 refine w_ ?_
 refine lc (QB (e:= .str) (z':=R++(((l5V ((Qq s).1).1.length (QP s.2.2.1 ((Qq s).1).2) (k:Int)).1).extract ((i:Int)).toNat ((i:Int)+1).toNat)) (Qa rfl) rfl g rfl (Qo rfl) rfl U1 rfl rfl)<|Qb ?_
 refine w4 ?_
 refine Qb<|Q2 ⟨i+1,(a.set i (R++(((l5V ((Qq s).1).1.length (QP s.2.2.1 ((Qq s).1).2) (k:Int)).1).extract ((i:Int)).toNat ((i:Int)+1).toNat))),by omega,rfl,by first | exact q.trans (Qrz u (by omega) ‹_› g) | exact q.trans (Qq2 u (by omega) ‹_› g),(by rw[az]; exact C),(QiP r g (by rw[aX]; first | exact aO _ | exact Nat.add_le_add_left (QdL _ _) _)),rfl⟩ (by omega) ?_
 exact wp [] ⟨rfl,rfl,rfl,rfl,rfl,rfl,rfl,(Qe (by first | rfl | simp)),trivial⟩
 have G:=ab A
 refine w9 ?_
 obtain ⟨S,o⟩:=gx a i
 have V:=r _ (ah o)
 refine w2 ?_
 refine lc (Zn (Qa rfl) (Qa rfl) rfl (by first | (simp only[Xt]; omega) | (refine bl (Nat.add_le_add_left (QdL _ i) _) ?_; omega))) ?_
 refine w_ ?_
 refine lc (QB (e:= .str) (z':=S++(⟨#[48]⟩:ByteArray)) (Qa rfl) rfl o rfl (Qo rfl) rfl U1 rfl rfl)<|Qb ?_
 refine w4 ?_
 refine Qb<|Q2 ⟨i+1,(a.set i (S++(⟨#[48]⟩:ByteArray))),by omega,rfl,by first | exact q.trans (Qrz u (by omega) ‹_› o) | exact q.trans (Qq2 u (by omega) ‹_› o),(by rw[az]; exact C),(QiP r o (by rw[aX]; first | exact aO _ | exact Nat.add_le_add_left (QdL _ _) _)),rfl⟩ (by omega) ?_
 exact wp [] ⟨rfl,rfl,rfl,rfl,rfl,rfl,rfl,(Qe (by first | rfl | simp)),trivial⟩
 refine w_ ?_
 refine lc (Qg ZU rfl (au.1 rfl) rfl rfl) ?_
 refine w3 ?_
 refine AC.wk (Qn 21 (p:=1) (off:=0) 44 Qz rfl rfl (Fresh.of rfl) (nlr rfl))<|AC.wk (Qn 22 (p:=1) (off:=1) 9 .str rfl rfl (Fresh.of rfl) (nlr rfl))<|AC.wk (Qn 23 (p:=1) (off:=2) 46 Qs rfl rfl (Fresh.of rfl) (nlr rfl))<|Qd ?_
 have X:(false:Bool)=((sgV s).2):=by
  (rw[QdN ‹_›]; done)
 exact fi_ [(0,21),(1,22),(2,23)] T ⟨(Qe (by (rw[QdN ‹_›]; rfl))),(Qe (by (rw[QdN ‹_›]; rfl))),(Qe (by (rw[QdN ‹_›]; rfl))),trivial⟩ (h0:=by rw[← X] <;> rfl)
 have J:=ab I
 refine w8 ?_
 refine lc (Qg ZU rfl (au.1 rfl) rfl rfl) ?_
 refine w3 ?_
 refine AC.wk (Qn 24 (p:=1) (off:=0) 44 Qz rfl rfl (Fresh.of rfl) (nlr rfl))<|AC.wk (Qn 25 (p:=1) (off:=1) 9 .str rfl rfl (Fresh.of rfl) (nlr rfl))<|AC.wk (Qn 26 (p:=1) (off:=2) 46 Qs rfl rfl (Fresh.of rfl) (nlr rfl))<|Qd ?_
 have Y:(false:Bool)=((sgV s).2):=by
  (rw[Qdl (KC (VP (Yq ‹_›).2.2.2.2.1) ‹_›)]; done)
 exact fi_ [(0,24),(1,25),(2,26)] T ⟨(Qe (by (rw[Qdl (KC (VP (Yq ‹_›).2.2.2.2.1) ‹_›)]; rfl))),(Qe (by (rw[Qdl (KC (VP (Yq ‹_›).2.2.2.2.1) ‹_›)]; rfl))),(Qe (by (rw[Qdl (KC (VP (Yq ‹_›).2.2.2.2.1) ‹_›)]; rfl))),trivial⟩ (h0:=by rw[← Y] <;> rfl)
end Go.Proofs.YtgpdhgadmjfokaaGreat
namespace Go.Proofs.YtgpdhgadmjfokaaGreat
open Go.RowKit
set_option maxRecDepth 100000
set_option maxHeartbeats 4000000
abbrev DRg:=List ByteArray×List DMv
instance (n m:Nat) (v:DMv):Decidable (MvOk n m v):=inferInstanceAs (Decidable (_∧_))
def Qoo (r:DRg):Prop:=(1≤r.1.length∧r.1.length≤300)∧r.2.length≤4000∧r.1.Nodup∧∀v∈r.2,MvOk r.1.length 24 v
instance (r:DRg):Decidable (Qoo r):=inferInstanceAs (Decidable (_∧_))
def QzL (l:List ByteArray):List (ByteArray×Bool):=l.foldl (fun m x=>Y2 .str m x true) []
section
variable {r:DRg}{k:Nat}{x y:ByteArray}{v:DMv}{l:List ByteArray}{m:List (ByteArray×Bool)}
end
def QrC (f:Int→Bool):Nat→List Int
 | 0=>[]
 | k+1=>QrC f k++(if f (k:Int)=true then [] else [(k:Int)])
section
variable {f:Int→Bool}{k n:Nat}{α:Type _}{l:List α}{p:α→Bool}{x:α}
end
def byT (r:DRg)(t:Int):Bool:=r.2.any fun v=>decide (v.2.1=t)
def QyO (r:DRg)(t:Int):Bool:=r.2.any fun v=>decide (v.1=t)
def mfV (r:DRg)(k:Int):List DMv×Bool:=if Qoo r∧0≤k∧k < r.1.length then (r.2.filter fun v=>decide (v.1=k),true) else ([],false)
def dlV (r:DRg):List Int×Bool:=if Qoo r then (QrC (QyO r) r.1.length,true) else ([],false)
section
variable [∀s,Decidable (StgOk s)]
def dtV (s:Q5)(r:DRg):List Int×Bool:=if StgOk s∧Qoo r then (QrC (byT r) s.2.2.1.length,true) else ([],false)
end
def QzK (k:Int)(ms:List DMv):List DMv:=ms.filter fun v=>decide (v.1=k)
end Go.Proofs.YtgpdhgadmjfokaaGreat
namespace Go.Proofs.YtgpdhgadmjfokaaGreat
open Go.RowKit
set_option maxRecDepth 100000
set_option maxHeartbeats 4000000
section
variable {α:Type}[DecidableEq α]{a b:List α}{k:Nat}{x y:α}
theorem Qlr (h:¬(a.length:Int)=(b.length:Int)):false=decide (a=b):=(aH fun e=>h (by rw[e])).symm
theorem QqC (c:a[k]? =some x)(d:b[k]? =some y)(h:x≠y):false=decide (a=b):=(aH fun e=>h (by rw[e,d] at c; exact (cw c).symm)).symm
theorem Qse {α:Type}{a b:List α}{k:Nat}{x y:α}(c:∀j,j < k→a[j]? =b[j]?)(d:a[k]? =some x)(f:b[k]? =some y)(h:x=y):∀j,j < k+1→a[j]? =b[j]? :=fun j g=>by
 by_cases e:j=k
 ·rw[e,d,f,h]
 ·exact c j (by omega)
theorem Qu4 (e:(a.length:Int)=(b.length:Int))(c:∀j,j < k→a[j]? =b[j]?)(d:a.length≤k):true=decide (a=b):=(aQ (bK fun j=>by
 by_cases h:j < k
 ·exact c j h
 ·rw[bD (by omega),bD (by omega)])).symm
theorem Qxu {t:Ty}{x y:t.Den}(h:Ty.beq t x y=false):x≠y:=fun e=>by rw[(Ty.beq_iff t x y).2 e] at h; cases h
end
section
variable [∀s,Decidable (StgOk s)]
def QsA (s:Q5):List Int:=(dtV s (Qq s).1).1
def Qrb (s:Q5):Bool:=decide ((0:Int) < ((dlV (Qq s).1).1.length:Int))
def frV (s:Q5):List Int×Bool×Bool:=if (sgV s).2=true then (QsA s,Qrb s,true) else ([],false,false)
def pfI (a b:Q5):Bool×Bool:=if (frV a).2.2=true∧(frV b).2.2=true∧a.2.1=b.2.1∧a.2.2.1=b.2.2.1 then (decide ((frV a).1=(frV b).1)&&(!(frV b).2.1||(frV a).2.1),true) else (false,false)
def pfV (a b:Q5):Bool×Bool:=if (sgV a).2=true∧(sgV b).2=true∧a.2.1=b.2.1∧a.2.2.1=b.2.2.1 then (decide (QsA a=QsA b)&&(Qrb a|| !Qrb b),true) else (false,false)
section
variable {a b:Q5}
end
end
theorem Jk (a:QmB)(b:QmB):FC Tryz.prog 103 [(false,[.dat Ql a]),(false,[.dat Ql b])] [] 0 (Q7 (lB (decide (a=b)))):=by
 refine Qt Tryz.func103 rfl rfl Tryz.ntmps103 fun v g u o z s r=> ?_
 refine w6 ?_
 refine alL 6 fun _=> ?_
 refine w2 ?_
 refine alL 8 fun _=> ?_
 refine w3 ?_
 refine cn_ (fun _ _=> ?_) fun _ _=> ?_
 refine w4 ?_
 refine alL 11 fun _=> ?_
 refine w4 ?_
 refine lpK a.length (fun k=>∀j,j < k→a[j]? =b[j]?) (fun k=>⟨[(0,lf (.dat Ql a)),(1,lf (.dat Ql b)),(12,lI (a.length:Int)),(13,lI (k:Int))],[]⟩) ((fun j t=>absurd t (bi j))) ?_ fun k _ l=> ?_
 exact wo []
 refine w4 ?_
 cases d:(decide ((k:Int) < (a.length:Int)))
 have e:=aa d
 refine w6 ?_
 refine Qd<|fqB g ?_
 exact Qu4 ‹_› l (by omega)
 have e:=ab d
 refine w8 ?_
 obtain ⟨h,f⟩:=gx a k
 obtain ⟨i,c⟩:=gx b k
 apply dW (i8 16 _ _ _ _ _ _ _ _ [io 24 (lB (!(Ty.beq Qz h i)))]) [0,1,0,0,15,31,15,15,0]
 refine z8 ?_
 refine zz (fun _ m=>ac (VK Qw1 Qwl (m.w rfl) (m.w rfl) (p:=h) (q:=i) rfl rfl rfl) rfl) ?_
 exact zN
 cases n:(Ty.beq Qz h i)
 refine w4 ?_
 refine Qd<|fqB g ?_
 exact QqC f c (by first | exact Qxu ‹_› | assumption)
 refine w6 ?_
 refine Qb ?_
 refine lK_ ((Qse l f c (by first | exact (Ty.beq_iff _ _ _).1 ‹_› | assumption))) ?_
 exact wo []
 refine w3 ?_
 refine Qd<|fqB g ?_
 exact Qlr ‹_›
end Go.Proofs.YtgpdhgadmjfokaaGreat
namespace Go.Proofs.YtgpdhgadmjfokaaGreat
open Go.RowKit
set_option maxRecDepth 100000
set_option maxHeartbeats 4000000
theorem QC {A:Amb}{P:Program}{o:Oper}{s:St}{d:Nat}{b f:Bool}(e:b=f)(h:Does A P o s (s.put d (lf (dB b)))):Does A P o s (s.put d (lf (dB f))):=e▸h
abbrev DSg:=List (ByteArray×Int)×List ByteArray×List DAr
theorem H0 (ss:List QD)[Decidable (XK ss)]:FC Tryz.prog 211 [(false,[.dat (.sl 44 XC) ss])] [] 0 (Q7 (lf (dB (decide (XK ss))))):=QbW fun e w f h=>by
 obtain ⟨v,rfl,b⟩:=h.leaf1
 exact (QdW v ss w b).mono fun _ _ h=>UY h
theorem QaL (ss:List QD)[Decidable (XK ss)]:FC Tryz.prog 207 [(false,[.dat (.sl 44 XC) ss])] [] 0 (Q7 (lf (dB (decide (XK ss))))):=QbW fun e w f h=>by
 obtain ⟨v,rfl,b⟩:=h.leaf1
 exact (HQ v ss w b).mono fun _ _ h=>UY h
def Ka (n:Int)(l:Zb):Prop:=(0≤l.1∧l.1≤n - 1)∨(l.1= -1∧l.2=false)
instance (n:Int) (l:Zb):Decidable (Ka n l):=inferInstanceAs (Decidable (_∨_))
def Xd (s:ByteArray)(n:Int):Prop:=(∀c∈s.toList,c=48∨c=49)∧(s.size:Int)=n
instance (s:ByteArray) (n:Int):Decidable (Xd s n):=inferInstanceAs (Decidable (_∧_))
section
variable {n:Int}{l:Zb}{s x y:ByteArray}{k:Nat}{c d:UInt8}{a:DAr}
theorem QoP (h:0≤l.1∧l.1≤n - 1):true=decide (Ka n l):=(aQ (.inl h)).symm
theorem QqU (h:¬(0≤l.1∧l.1≤n - 1)):Ty.beq Qb2 l (-1,false)=decide (Ka n l):=by
 rw[bQ,Ty.beq_iff,aU]
 constructor
 ·rintro rfl; exact .inr ⟨rfl,rfl⟩
 ·rintro (b | b)
  ·exact absurd b h
  ·exact dH b.1 b.2
theorem Qxr (h:¬(0≤l.1∧l.1≤n - 1))(e:l.1= -1):(!l.2)=decide (Ka n l):=by
 rw[bQ,aU]
 constructor
 ·intro b; exact .inr ⟨e,by simpa using b⟩
 ·rintro (b | b)
  ·exact absurd b h
  ·simp[b.2]
theorem Qwn (h:¬(0≤l.1∧l.1≤n - 1))(e:¬l.1= -1):false=decide (Ka n l):=(aH (by rintro (b | b); exact h b; exact e b.1)).symm
theorem Hx (h:s[((k:Int)).toNat]? =some c):s.toList[k]? =some c:=by
 have h:s[k]? =some c:=h
 rw[bw]
 obtain ⟨b,e⟩:∃b:k < s.size,s[k]=c:=by
  by_cases b:k < s.size
  ·rw[dx s k b] at h; exact ⟨b,cw h⟩
  ·rw[getElem?_neg s k b] at h; cases h
 rw[ak (by simpa using b)]
 rw[← e]; simp; rfl
theorem J0 (f:∀j,j < k→∀c,s.toList[j]? =some c→c=48∨c=49)(g:s[((k:Int)).toNat]? =some c)(h:c=48∨c=49):∀j,j < k+1→∀c,s.toList[j]? =some c→c=48∨c=49:=fun j i d b=>by
 by_cases e:j=k
 ·subst e; rw[Hx g] at b; cases b; exact h
 ·exact f j (by omega) d b
theorem Qn7 (f:s[((k:Int)).toNat]? =some c)(b:¬c=48)(e:¬c=49):false=decide (Xd s n):=(aH fun h=>by
 rcases h.1 c (ah (Hx f)) with h | h
 ·exact b h
 ·exact e h).symm
theorem Qkb (e:∀j,j < k→∀c,s.toList[j]? =some c→c=48∨c=49)(g:s.size≤k):decide ((s.size:Int)=n)=decide (Xd s n):=dd.2 ⟨fun h=>⟨fun c f=>by
 obtain ⟨j,b⟩:=aM.1 f
 have:=(ai.1 b).1
 rw[X9] at this
 exact e j (by omega) c b,h⟩,fun h=>h.2⟩
def Xo (a:DAr)(x y:ByteArray)(j:Nat):Prop:=if (j:Int)=a.2.1 then (decide (bAt x j=49)= !a.2.2.1∧decide (bAt y j=49)=a.2.2.1) else bAt x j=bAt y j
instance (a:DAr) (x y:ByteArray) (j:Nat):Decidable (Xo a x y j):=by unfold Xo; exact inferInstance
def Fit (a:DAr)(x y:ByteArray):Prop:=∀j,j < x.size→Xo a x y j
instance (a:DAr) (x y:ByteArray):Decidable (Fit a x y):=by unfold Fit; exact inferInstance
theorem Qkk (b:∀j,j < k→Xo a x y j)(h:Xo a x y k):∀j,j < k+1→Xo a x y j:=fun j f=>by
 by_cases e:j=k
 ·subst e; exact h
 ·exact b j (by omega)
theorem QkO (e:k < x.size)(h:¬Xo a x y k):false=decide (Fit a x y):=(aH fun b=>h (b k e)).symm
theorem Qu2 (b:∀j,j < k→Xo a x y j)(f:x.size≤k):true=decide (Fit a x y):=(aQ fun j e=>b j (by omega)).symm
theorem JU (h:¬(k:Int)=a.2.1)(b:x[((k:Int)).toNat]? =some c)(e:y[((k:Int)).toNat]? =some d):Xo a x y k↔c=d:=by
 unfold Xo; rw[if_neg h,Qv b,Qv e]
theorem Qtc (h:(k:Int)=a.2.1)(b:x[((k:Int)).toNat]? =some c)(e:y[((k:Int)).toNat]? =some d):Xo a x y k↔(decide (c=49)= !a.2.2.1∧decide (d=49)=a.2.2.1):=by
 unfold Xo; rw[if_pos h,Qv b,Qv e]
theorem Qcr (h:(k:Int)=a.2.1)(g:x[((k:Int)).toNat]? =some c)(b:(decide (c=49)==a.2.2.1)=true):¬Xo a x y k:=by
 unfold Xo; rw[if_pos h,Qv g]
 rintro ⟨e,_⟩
 rw[e] at b
 cases f:a.2.2.1 <;> rw[f] at b <;> cases b
theorem Qce (h:(k:Int)=a.2.1)(g:y[((k:Int)).toNat]? =some d)(b:(decide (d=49)==a.2.2.1)=false):¬Xo a x y k:=by
 unfold Xo; rw[if_pos h,Qv g]
 rintro ⟨_,e⟩
 rw[e] at b
 cases f:a.2.2.1 <;> rw[f] at b <;> cases b
theorem QgT (h:(k:Int)=a.2.1)(j:x[((k:Int)).toNat]? =some c)(m:y[((k:Int)).toNat]? =some d)(b:(decide (c=49)==a.2.2.1)=false)(e:(decide (d=49)==a.2.2.1)=true):Xo a x y k:=by
 rw[Qtc h j m]
 cases f:a.2.2.1 <;> rw[f] at b e <;> cases g:decide (c=49) <;> rw[g] at b <;> cases i:decide (d=49) <;> rw[i] at e <;> first | exact ⟨rfl,rfl⟩ | exact absurd b (by decide) | exact absurd e (by decide)
def QbE (code:ByteArray)(sig:Int)(b:ByteArray):ByteArray:=(code.extract 0 sig.toNat++b)++code.extract (sig+1).toNat code.size
end
theorem Ju (l:KO)(n:Int)(r:0≤n∧n≤1000000):FC Tryz.prog 213 [(true,[dI l.1,dB l.2]),(false,[dI n])] [] 0 (Q7 (lB (decide (Ka n l)))):=by
 refine Qt Tryz.func213 rfl rfl Tryz.ntmps213 fun m f j g o i h=> ?_
 refine acG 0 0 fun _=> ?_
 refine acI 1 fun _=> ?_
 refine w_ ?_
 refine xbx 0 ?_
 refine w7 ?_
 refine lc (dK (Zh l.1 0 (n - 1)) Yh) ?_
 refine w_ ?_
 cases b:(decide (0≤l.1∧l.1≤(n - 1)))
 have e:=aa b
 refine w_ ?_
 refine lgy rfl rfl (Qg Ws ⟨_,_,rfl,(Evl.ev (Qp rfl)),rfl⟩ (au.1 rfl) rfl rfl)<|lgy rfl rfl (J2 K7 Qar (Qo rfl) (Qo rfl) (p:=l) (q:=((-1),false)) rfl rfl rfl) ?_
 refine w3 ?_
 refine Qd<|fqB f ?_
 exact QqU ‹_›
 have e:=ab b
 refine w6 ?_
 refine Qd<|fqB f ?_
 exact QoP ‹_›
theorem Qdj (l:KO)(n:Int)(r:0≤n∧n≤1000000):FC Tryz.prog 314 [(true,[dI l.1,dB l.2]),(false,[dI n])] [] 0 (Q7 (lB (decide (Ka n l)))):=by
 refine Qt Tryz.func314 rfl rfl Tryz.ntmps314 fun p h o i q m j=> ?_
 refine acG 0 0 fun _=> ?_
 refine acI 1 fun _=> ?_
 refine w_ ?_
 refine xbx 0 ?_
 refine w7 ?_
 refine lc (dK (XD l.1 0 (n - 1)) WQ) ?_
 refine w_ ?_
 cases b:(decide (0≤l.1∧l.1≤(n - 1)))
 have e:=aa b
 refine w4 ?_
 cases f:(decide (l.1=(-1)))
 have g:=aa f
 refine w7 ?_
 refine Qd<|fqB h ?_
 exact Qwn ‹_› ‹_›
 have g:=ab f
 refine w7 ?_
 refine Qd<|fqB h ?_
 exact Qxr ‹_› ‹_›
 have e:=ab b
 refine w4 ?_
 refine Qi rfl rfl rfl ?_ rfl
 refine Qi rfl rfl rfl ?_ rfl
 refine Qi rfl rfl rfl ?_ rfl
 refine w4 ?_
 refine Qd<|fqB h ?_
 exact QoP ‹_›
theorem Qed (s:ByteArray)(n:Int):FC Tryz.prog 212 [(false,[dS s]),(false,[dI n])] [] 0 (Q7 (lB (decide (Xd s n)))):=by
 refine Qt Tryz.func212 rfl rfl Tryz.ntmps212 fun z p w q A t r=> ?_
 refine acI 1 fun _=> ?_
 refine w8 ?_
 refine lpK s.size (fun k=>∀j,j < k→∀c,s.toList[j]? =some c→c=48∨c=49) (fun k=>⟨[(0,lf (dS s)),(1,lI n),(5,lI (k:Int))],[]⟩) ((fun j v=>absurd v (bi j))) ?_ fun k _ o=> ?_
 exact wo []
 refine w4 ?_
 refine alS 7 fun _=> ?_
 refine lc (ZJ (Qa rfl) rfl Zf) ?_
 refine w2 ?_
 cases e:(decide ((k:Int) < (s.size:Int)))
 have f:=aa e
 refine w5 ?_
 refine alS 22 fun _=> ?_
 refine lc (ZJ (Qa rfl) rfl Zf) ?_
 refine w4 ?_
 refine Qd<|fqB p ?_
 exact Qkb o (by omega)
 have f:=ab e
 refine w7 ?_
 obtain ⟨b,u⟩:=gs s (((k:Int)).toNat)
 refine w_ ?_
 refine lc (Q4 (Qa rfl) (Qw 48 rfl) rfl) ?_
 refine w_ ?_
 cases g:(!decide (b=48))
 have h:(b=48):=QM g
 refine w13 ?_
 refine Qb ?_
 refine lK_ ((J0 o ‹_› (by first | exact .inl ‹_› | exact .inr ‹_›))) ?_
 exact wo []
 have h:¬(b=48):=QS g
 refine w3 ?_
 refine lgy rfl rfl (Q4 (Qa rfl) (Qw 49 rfl) rfl) ?_
 refine w2 ?_
 cases i:(!decide (b=49))
 have m:(b=49):=QM i
 refine w7 ?_
 refine Qb ?_
 refine lK_ ((J0 o ‹_› (by first | exact .inl ‹_› | exact .inr ‹_›))) ?_
 exact wo []
 have m:¬(b=49):=QS i
 refine w4 ?_
 refine Qd<|fqB p ?_
 exact Qn7 (k:=k) ‹_› ‹_› ‹_›
theorem Qea (s:ByteArray)(n:Int):FC Tryz.prog 208 [(false,[dS s]),(false,[dI n])] [] 0 (Q7 (lB (decide (Xd s n)))):=by
 refine Qt Tryz.func208 rfl rfl Tryz.ntmps208 fun z p w q A t r=> ?_
 refine acI 1 fun _=> ?_
 refine w8 ?_
 refine lpK s.size (fun k=>∀j,j < k→∀c,s.toList[j]? =some c→c=48∨c=49) (fun k=>⟨[(0,lf (dS s)),(1,lI n),(5,lI (k:Int))],[]⟩) ((fun j v=>absurd v (bi j))) ?_ fun k _ o=> ?_
 exact wo []
 refine w4 ?_
 refine alS 7 fun _=> ?_
 refine lc (ZJ (Qa rfl) rfl Zf) ?_
 refine w2 ?_
 cases e:(decide ((k:Int) < (s.size:Int)))
 have f:=aa e
 refine w5 ?_
 refine alS 22 fun _=> ?_
 refine lc (ZJ (Qa rfl) rfl Zf) ?_
 refine w4 ?_
 refine Qd<|fqB p ?_
 exact Qkb o (by omega)
 have f:=ab e
 refine w7 ?_
 obtain ⟨b,u⟩:=gs s (((k:Int)).toNat)
 refine w_ ?_
 refine lc (Q4 (Qa rfl) (Qw 48 rfl) rfl) ?_
 refine w_ ?_
 cases g:(!decide (b=48))
 have h:(b=48):=QM g
 refine w13 ?_
 refine Qb ?_
 refine lK_ ((J0 o ‹_› (by first | exact .inl ‹_› | exact .inr ‹_›))) ?_
 exact wo []
 have h:¬(b=48):=QS g
 refine w3 ?_
 refine lgy rfl rfl (Q4 (Qa rfl) (Qw 49 rfl) rfl) ?_
 refine w2 ?_
 cases i:(!decide (b=49))
 have m:(b=49):=QM i
 refine w7 ?_
 refine Qb ?_
 refine lK_ ((J0 o ‹_› (by first | exact .inl ‹_› | exact .inr ‹_›))) ?_
 exact wo []
 have m:¬(b=49):=QS i
 refine w4 ?_
 refine Qd<|fqB p ?_
 exact Qn7 (k:=k) ‹_› ‹_› ‹_›
theorem Qbe (a:Qf5)(x:ByteArray)(y:ByteArray)(J:x.size≤y.size):FC Tryz.prog 214 [(true,[dI a.1,dI a.2.1,dB a.2.2.1,dI a.2.2.2]),(false,[dS x]),(false,[dS y])] [] 0 (Q7 (lB (decide (Fit a x y)))):=by
 refine Qt Tryz.func214 rfl rfl Tryz.ntmps214 fun L u K E M G F=> ?_
 refine acG 0 0 fun _=> ?_
 refine acG 0 1 fun _=> ?_
 refine acG 0 3 fun _=> ?_
 refine w_ ?_
 refine xbx 0 ?_
 refine w5 ?_
 refine alS 8 fun _=> ?_
 refine lc (ZJ (Qa rfl) rfl Zf) ?_
 refine w3 ?_
 refine lpK x.size (fun k=>∀j,j < k→Xo a x y j) (fun k=>⟨[(1,lf (dS x)),(2,lf (dS y)),(3,lP 0 0),(9,lI (x.size:Int)),(10,lI (k:Int))],[bx 0 46 [dI a.1,dI a.2.1,dB a.2.2.1,dI a.2.2.2]]⟩) ((fun j I=>absurd I (bi j))) ?_ fun k _ z=> ?_
 exact wo []
 refine w4 ?_
 cases p:(decide ((k:Int) < (x.size:Int)))
 have q:=aa p
 refine w6 ?_
 refine Qd<|fqB u ?_
 exact Qu2 z (by omega)
 have q:=ab p
 refine w16 ?_
 cases r:(!decide ((k:Int)=a.2.1))
 have t:((k:Int)=a.2.1):=QM r
 refine w_ ?_
 obtain ⟨w,H⟩:=gs x (((k:Int)).toNat)
 cases e:((decide (w=49))==a.2.2.1)
 obtain ⟨g,B⟩:=gs y (((k:Int)).toNat)
 apply dW (i3 26 _ _ _ (io 29 (lB (decide (w=49))) :: i2 30 _ _ (io 32 (lB false) :: i4 33 _ _ _ _ (io 37 (lB (decide (g=49))) :: i2 38 _ _ [io 40 (lB (!((decide (g=49))==a.2.2.1))),io 41 _,io 25 _])))) [0,1,0,0,15,15,0,0,0,256,0,0,3840,3840,0,0,0]
 refine z3 ?_
 refine zz (fun _ b=>ac (Qr (b.v rfl) (Qw 49 rfl) rfl) rfl) ?_
 refine z2 ?_
 refine zz (fun _ b=>ac (QC (e) (J6 (b.v rfl) (b.v rfl) rfl Jr)) rfl) ?_
 refine z4 ?_
 refine zz (fun _ b=>day rfl (b.k rfl) (Qr (b.v rfl) (Qw 49 rfl) rfl) rfl) ?_
 refine z2 ?_
 refine zz (fun _ b=>day rfl (b.k rfl) (UR (b.v rfl) (b.v rfl) rfl Jr) rfl) ?_
 exact y2
 cases A:((decide (g=49))==a.2.2.1)
 refine w4 ?_
 refine Qd<|fqB u ?_
 exact QkO (k:=k) (by omega) (fun h=>by first | exact absurd ((JU ‹_› ‹_› ‹_›).1 h) ‹_› | exact Qcr ‹_› ‹_› ‹_› h | exact Qce ‹_› ‹_› ‹_› h)
 refine w6 ?_
 refine Qb ?_
 refine lK_ ((Qkk z (by first | exact (JU ‹_› ‹_› ‹_›).2 ‹_› | exact QgT ‹_› ‹_› ‹_› ‹_› ‹_›))) ?_
 exact wo []
 apply dW (i3 26 _ _ _ (io 29 (lB (decide (w=49))) :: i2 30 _ _ (io 32 (lB true) :: i9 33 _ _ _ _ _ _ _ _ _ [io 25 _]))) [0,1,0,0,15,15,0,0,0,256,0,0,3840,3840,0,0,0]
 refine z3 ?_
 refine zz (fun _ b=>ac (Qr (b.v rfl) (Qw 49 rfl) rfl) rfl) ?_
 refine z2 ?_
 refine zz (fun _ b=>ac (QC (e) (J6 (b.v rfl) (b.v rfl) rfl Jr)) rfl) ?_
 exact y10
 refine w4 ?_
 refine Qd<|fqB u ?_
 exact QkO (k:=k) (by omega) (fun h=>by first | exact absurd ((JU ‹_› ‹_› ‹_›).1 h) ‹_› | exact Qcr ‹_› ‹_› ‹_› h | exact Qce ‹_› ‹_› ‹_› h)
 have t:¬((k:Int)=a.2.1):=QS r
 refine w_ ?_
 obtain ⟨i,C⟩:=gs x (((k:Int)).toNat)
 obtain ⟨m,D⟩:=gs y (((k:Int)).toNat)
 apply dW (i7 18 _ _ _ _ _ _ _ []) [0,1,0,7,15,7,0]
 exact y7
 cases f:(!decide (i=m))
 have o:(i=m):=QM f
 refine w6 ?_
 refine Qb ?_
 refine lK_ ((Qkk z (by first | exact (JU ‹_› ‹_› ‹_›).2 ‹_› | exact QgT ‹_› ‹_› ‹_› ‹_› ‹_›))) ?_
 exact wo []
 have o:¬(i=m):=QS f
 refine w4 ?_
 refine Qd<|fqB u ?_
 exact QkO (k:=k) (by omega) (fun h=>by first | exact absurd ((JU ‹_› ‹_› ‹_›).1 h) ‹_› | exact Qcr ‹_› ‹_› ‹_› h | exact Qce ‹_› ‹_› ‹_› h)
theorem UH (code:ByteArray)(sig:Int)(b:ByteArray)(q:0≤sig∧sig < (code.size:Int))(hb:code.size≤1000000∧b.size≤1000000):FC Tryz.prog 315 [(false,[dS code]),(false,[dI sig]),(false,[dS b])] [] 0 (Q7 (lf (dS (QbE code sig b)))):=by
 refine Qt Tryz.func315 rfl rfl Tryz.ntmps315 fun o j m f p i g=> ?_
 refine acI 1 fun _=> ?_
 refine w3 ?_
 apply dW (i2 7 _ _ (io 9 (lf (dS (code.extract 0 (sig).toNat))) :: io 10 _ :: io 11 (lf (dS ((code.extract 0 (sig).toNat)++b))) :: i3 12 _ _ _ [io 15 (lf (dS (code.extract (sig+1).toNat code.size))),io 16 (lf (dS (((code.extract 0 (sig).toNat)++b)++(code.extract (sig+1).toNat code.size)))),io 6 _])) [0,1,0,7,0,31,63,63,31,0,0]
 refine z2 ?_
 refine zz (fun _ e=>ac (show Does _ _ _ _ (St.put _ 9 (lf (dS (code.extract 0 (sig).toNat)))) from Zj (l:=none) (h:=(some sig)) (e.v rfl) (by exact trivial) (by exact (e.v rfl)) Zf rfl (by first | omega | (simp only[av,ao]; omega)) (by first | omega | (simp only[av,ao]; omega)) (by first | omega | (simp only[av,ao]; omega))) rfl) ?_
 refine z_ ?_
 refine zz (fun _ e=>ac (Zn (e.v rfl) (e.v rfl) rfl (by first | omega | (simp only[aX,aW]; omega))) rfl) ?_
 refine z3 ?_
 refine zz (fun _ e=>ac (show Does _ _ _ _ (St.put _ 15 (lf (dS (code.extract (sig+1).toNat code.size)))) from Zj (l:=(some (sig+1))) (h:=none) (e.v rfl) (by exact (e.v rfl)) (by exact trivial) Zf rfl (by first | omega | (simp only[av,ao]; omega)) (by first | omega | (simp only[av,ao]; omega)) (by first | omega | (simp only[av,ao]; omega))) rfl)<|zz (fun _ e=>ac (Zn (e.v rfl) (e.v rfl) rfl (by first | omega | (simp only[aX,aW]; omega))) rfl) ?_
 exact y1
 refine Qd<|fqS j ?_
 rfl
end Go.Proofs.YtgpdhgadmjfokaaGreat
namespace Go.Proofs.YtgpdhgadmjfokaaGreat
open Go.RowKit
set_option maxRecDepth 100000
set_option maxHeartbeats 4000000
def QfF (c:DSg)(i:Int):ByteArray:=(c.2.1[i.toNat]?).getD ByteArray.empty
def XF (c:DSg)(a:DAr):Prop:=(0≤a.1∧a.1≤(c.2.1.length:Int) - 1)∧(0≤a.2.2.2∧a.2.2.2≤(c.2.1.length:Int) - 1)∧Ka (c.1.length:Int) (a.2.1,a.2.2.1)∧Fit a (QfF c a.1) (QfF c a.2.2.2)
instance (c:DSg) (a:DAr):Decidable (XF c a):=inferInstanceAs (Decidable (_∧_))
section
variable {c:DSg}{a:DAr}{x y b code:ByteArray}{n sig p:Int}{j k m:Nat}
theorem Vh (h:c.2.1[p.toNat]? =some x):QfF c p=x:=by unfold QfF; rw[h]; rfl
theorem Km (m:ByteArray)(p:Int):bAt m p=(m.toList[p.toNat]?).getD 0:=by
 unfold bAt
 rw[bw]
 by_cases h:p.toNat < m.size
 ·rw[dx m p.toNat h,ak (by simpa using h)]
  rfl
 ·rw[getElem?_neg m p.toNat h,bD (by simpa using h)]
theorem QhD (g:x.size=y.size)(h:∀j:Nat,j < x.size→bAt x (j:Int)=bAt y (j:Int)):x=y:=by
 have e:x.toList=y.toList:=bK fun j=>by
  by_cases d:j < x.size
  ·have h1:=h j d
   rw[Km,Km] at h1
   have h2:j < x.toList.length:=by rw[X9]; exact d
   have h3:j < y.toList.length:=by rw[X9,← g]; exact d
   have f:((j:Int)).toNat=j:=rfl
   rw[f,ak h2,ak h3] at h1
   rw[ak h2,ak h3]
   exact congrArg some h1
  ·rw[bD (by rw[X9]; omega),bD (by rw[X9]; omega)]
 rw[bw,bw] at e
 exact ByteArray.ext (Array.toList_inj.1 e)
theorem Qf8 (code:ByteArray)(sig:Int)(b:ByteArray):(QbE code sig b).toList=code.toList.take sig.toNat++(b.toList++code.toList.drop (sig+1).toNat):=by
 have h:code.data.size=code.size:=rfl
 simp only[QbE,bw,ByteArray.data_append,ByteArray.data_extract,Array.toList_append,Array.toList_extract,aP]
 simp[h,List.extract_eq_take_drop]
 rw[bB (by simp[h])]
theorem Qg1 (h0:0≤sig)(h1:sig < code.size)(hb:b.size=1):(QbE code sig b).size=code.size:=by
 rw[← X9,Qf8]
 simp only[ae,ap,bo,X9,hb]
 omega
theorem QnZ (h0:0≤sig)(h1:sig < code.size)(hb:b.size=1)(g:j < code.size):bAt (QbE code sig b) (j:Int)=if (j:Int)=sig then bAt b 0 else bAt code (j:Int):=by
 rw[Km,Qf8,Km,Km]
 have i:=X9 code
 have f:=X9 b
 have d:((j:Int)).toNat=j:=rfl
 rw[d]
 by_cases e:(j:Int)=sig
 ·rw[if_pos e,bp (by rw[ap]; omega),ba (by rw[ap]; omega)]
  rw[show j - (code.toList.take sig.toNat).length=((0:Int)).toNat by rw[ap]; show _=0; omega]
 ·rw[if_neg e]
  by_cases h:(j:Int) < sig
  ·rw[ba (by rw[ap]; omega),bu,if_pos (by omega)]
  ·rw[bp (by rw[ap]; omega),bp (by rw[ap]; omega),cR]
   congr 2
   rw[ap]
   omega
theorem Qdv (h:Xd x n)(e:j < x.size):bAt x (j:Int)=48∨bAt x (j:Int)=49:=by
 have h2:j < x.toList.length:=by rw[X9]; exact e
 rw[Km]
 have d:((j:Int)).toNat=j:=rfl
 rw[d,ak h2]
 exact h.1 _ (cX h2)
theorem Qh3 (b:Bool):bAt (Xw b) 0=if b=true then 49 else 48:=by cases b <;> rfl
theorem WW (b:Bool):(Xw b).size=1:=rfl
theorem Qdz {c:UInt8}{b:Bool}(h:c=48∨c=49):decide (c=49)=b↔c=if b=true then 49 else 48:=by
 rcases h with rfl | rfl <;> cases b <;> decide
theorem Quf (hx:Xd x n)(hy:Xd y n)(f:a.2.1 < 0):Fit a x y↔x=y:=by
 have d:x.size=y.size:=by have:=hx.2; have:=hy.2; omega
 constructor
 ·intro h
  refine QhD d fun j e=> ?_
  have:=h j e
  unfold Xo at this
  rwa [if_neg (by omega)] at this
 ·rintro rfl j e
  unfold Xo
  rw[if_neg (by omega)]
theorem Qno (hx:Xd x n)(hy:Xd y n)(s:¬a.2.1 < 0)(r:a.2.1 < n):Fit a x y↔x=QbE y a.2.1 (Xw (!a.2.2.1))∧y=QbE x a.2.1 (Xw a.2.2.1):=by
 have o:=hx.2
 have q:=hy.2
 have t:=Qg1 (code:=y) (sig:=a.2.1) (b:=Xw (!a.2.2.1)) (by omega) (by omega) (WW _)
 have z2:=Qg1 (code:=x) (sig:=a.2.1) (b:=Xw a.2.2.1) (by omega) (by omega) (WW _)
 have f:=fun (j:Nat) d=>QnZ (j:=j) (code:=y) (sig:=a.2.1) (b:=Xw (!a.2.2.1)) (by omega) (by omega) (WW _) d
 have g:=fun (j:Nat) d=>QnZ (j:=j) (code:=x) (sig:=a.2.1) (b:=Xw a.2.2.1) (by omega) (by omega) (WW _) d
 constructor
 ·intro h
  constructor
  ·refine QhD (by omega) fun j d=> ?_
   rw[f j (by omega),Qh3]
   have h1:=h j d
   unfold Xo at h1
   split
   ·rename_i e
    rw[if_pos e] at h1
    exact (Qdz (Qdv hx d)).1 h1.1
   ·rename_i e
    rwa [if_neg e] at h1
  ·refine QhD (by omega) fun j d=> ?_
   rw[g j (by omega),Qh3]
   have h1:=h j (by omega)
   unfold Xo at h1
   split
   ·rename_i e
    rw[if_pos e] at h1
    exact (Qdz (Qdv hy d)).1 h1.2
   ·rename_i e
    rw[if_neg e] at h1
    exact h1.symm
 ·rintro ⟨i,l⟩ j d
  have h1:=f j (by omega)
  have h2:=g j d
  rw[← i,Qh3] at h1
  rw[← l,Qh3] at h2
  unfold Xo
  split
  ·rename_i e
   rw[if_pos e] at h1 h2
   exact ⟨(Qdz (Qdv hx d)).2 h1,(Qdz (Qdv hy (by omega))).2 h2⟩
  ·rename_i e
   rwa [if_neg e] at h1
theorem QtM (h:¬(0≤a.1∧a.1≤(c.2.1.length:Int) - 1)):false=decide (XF c a):=(aH fun g=>h g.1).symm
theorem QuJ (h:¬(0≤a.2.2.2∧a.2.2.2≤(c.2.1.length:Int) - 1)):false=decide (XF c a):=(aH fun g=>h g.2.1).symm
theorem Qud (h:¬Ka (c.1.length:Int) (a.2.1,a.2.2.1)):false=decide (XF c a):=(aH fun g=>h g.2.2.1).symm
theorem Qlg (h3:Ka (c.1.length:Int) (a.2.1,a.2.2.1))(d:¬a.2.1 < 0):a.2.1 < (c.1.length:Int):=by
 rcases h3 with h | h
 ·have h:0≤a.2.1∧a.2.1≤(c.1.length:Int) - 1:=h; omega
 ·have h:a.2.1= -1:=h.1; omega
section
variable (h1:0≤a.1∧a.1≤(c.2.1.length:Int) - 1)(h2:0≤a.2.2.2∧a.2.2.2≤(c.2.1.length:Int) - 1)(h3:Ka (c.1.length:Int) (a.2.1,a.2.2.1))(hx:c.2.1[a.1.toNat]? =some x)(hy:c.2.1[a.2.2.2.toNat]? =some y)
include h1 h2 h3 hx hy
theorem QhO:XF c a↔Fit a x y:=by
 unfold XF
 rw[Vh hx,Vh hy]
 exact ⟨fun g=>g.2.2.2,fun g=>⟨h1,h2,h3,g⟩⟩
theorem Qvb (hb:∀x∈c.2.1,Xd x (c.1.length:Int))(d:a.2.1 < 0):decide (x=y)=decide (XF c a):=dd.2 (by rw[QhO h1 h2 h3 hx hy,Quf (hb x (ah hx)) (hb y (ah hy)) d])
theorem Qrm (hb:∀x∈c.2.1,Xd x (c.1.length:Int))(d:¬a.2.1 < 0)(h:¬x=QbE y a.2.1 (Xw (!a.2.2.1))):false=decide (XF c a):=(aH fun g=>by
 rw[QhO h1 h2 h3 hx hy,Qno (hb x (ah hx)) (hb y (ah hy)) d (Qlg h3 d)] at g
 exact h g.1).symm
theorem Qtu (hb:∀x∈c.2.1,Xd x (c.1.length:Int))(d:¬a.2.1 < 0)(h:x=QbE y a.2.1 (Xw (!a.2.2.1))):decide (y=QbE x a.2.1 (Xw a.2.2.1))=decide (XF c a):=dd.2 (by
 rw[QhO h1 h2 h3 hx hy,Qno (hb x (ah hx)) (hb y (ah hy)) d (Qlg h3 d)]
 exact ⟨fun g=>⟨h,g⟩,fun g=>g.2⟩)
end
end
theorem QfZ (c:ZB)(a:Qf5)(f:∀x∈c.2.1,Xd x (c.1.length:Int))(F:c.1.length≤1000):FC Tryz.prog 209 [(true,[.dat Ql c.1, .dat Qm c.2.1, .dat Qu c.2.2]),(true,[dI a.1,dI a.2.1,dB a.2.2.1,dI a.2.2.2])] [] 0 (Q7 (lB (decide (XF c a)))):=by
 refine Qt Tryz.func209 rfl rfl Tryz.ntmps209 fun I l H C J E D=> ?_
 refine acG 1 0 fun _=> ?_
 refine acG 1 1 fun _=> ?_
 refine acG 1 3 fun _=> ?_
 refine w_ ?_
 refine xbx 0 ?_
 refine xbx 1 ?_
 refine w8 ?_
 refine alL 10 fun _=> ?_
 refine w2 ?_
 refine lc (dK (XD a.1 0 ((c.2.1.length:Int) - 1)) WQ) ?_
 refine w2 ?_
 cases o:(decide (0≤a.1∧a.1≤((c.2.1.length:Int) - 1)))
 have q:=aa o
 refine w16 ?_
 refine w10 ?_
 refine Qd<|fqB l ?_
 exact QtM ‹_›
 have q:=ab o
 refine w4 ?_
 refine alL 19 fun _=> ?_
 refine w2 ?_
 refine lgy rfl rfl (dK (XD a.2.2.2 0 ((c.2.1.length:Int) - 1)) WQ) ?_
 refine w3 ?_
 cases r:(decide (0≤a.2.2.2∧a.2.2.2≤((c.2.1.length:Int) - 1)))
 have s:=aa r
 refine w16 ?_
 refine Qd<|fqB l ?_
 exact QuJ ‹_›
 have s:=ab r
 refine w4 ?_
 refine lgy rfl rfl (Qg Ws ⟨_,_,rfl,(Qo rfl),⟨_,_,rfl,(Qo rfl),rfl⟩⟩ (au.1 rfl) rfl rfl) ?_
 refine w2 ?_
 refine alL 32 fun _=> ?_
 refine w_ ?_
 refine lgy rfl rfl (dK (Qdj (a.2.1,a.2.2.1) (c.1.length:Int) (by omega)) Qla) ?_
 refine w3 ?_
 cases t:(decide (Ka (c.1.length:Int) (a.2.1,a.2.2.1)))
 have u:=aa t
 refine w4 ?_
 refine Qd<|fqB l ?_
 exact Qud ‹_›
 have u:=ab t
 refine w2 ?_
 obtain ⟨i,w⟩:=gx c.2.1 ((a.1).toNat)
 have A:=(f _ (ah w)).2
 obtain ⟨g,z⟩:=gx c.2.1 ((a.2.2.2).toNat)
 have B:=(f _ (ah z)).2
 apply dW (i9 37 _ _ _ _ _ _ _ _ _ (i3 46 _ _ _ (i2 5 _ _ []))) [0,0,3,3,0,0,63,63,255,255,63,63,4032,0]
 exact y14
 refine w6 ?_
 refine cd_ (fun _ _=> ?_) fun _ _=> ?_
 refine w_ ?_
 have G:=Qlg (c:=c) (a:=a) ‹_› ‹_›
 cases d:(decide (i=(QbE g a.2.1 (Xw (!a.2.2.1)))))
 have h:=aa d
 apply dW (i7 55 _ _ _ _ _ _ _ (io 62 (lf (dS (Xw (!a.2.2.1)))) :: io 63 (lf (dS (QbE g a.2.1 (Xw (!a.2.2.1))))) :: io 64 (lB false) :: i9 65 _ _ _ _ _ _ _ _ _ (i2 74 _ _ [io 4 _]))) [0,1,3,3,15,15,15,15,1,0,0,0,2048,6144,6144,30720,30720,30720,2048,0,0,0]
 refine z7 ?_
 refine zz (fun _ e=>ac (dK (XS (!a.2.2.1)) V8) rfl) ?_
 refine zz (fun _ e=>ac (dK (UH g a.2.1 (Xw (!a.2.2.1)) (by omega) ⟨by omega,by rw[WW]; decide⟩) QaF) rfl) ?_
 refine zz (fun _ e=>ac (QC (d) (VL (e.v rfl) (e.v rfl) rfl)) rfl) ?_
 exact y12
 refine Qd<|fqB l ?_
 exact Qrm ‹_› ‹_› ‹_› (x:=i) (y:=g) ‹_› ‹_› f ‹_› ‹_›
 have h:=ab d
 apply dW (i7 55 _ _ _ _ _ _ _ (io 62 (lf (dS (Xw (!a.2.2.1)))) :: io 63 (lf (dS (QbE g a.2.1 (Xw (!a.2.2.1))))) :: io 64 (lB true) :: i7 65 _ _ _ _ _ _ _ (io 72 (lf (dS (Xw a.2.2.1))) :: io 73 (lf (dS (QbE i a.2.1 (Xw a.2.2.1)))) :: i2 74 _ _ [io 4 _]))) [0,1,3,3,15,15,15,15,1,0,0,0,2048,6144,6144,30720,30720,30720,2048,0,0,0]
 refine z7 ?_
 refine zz (fun _ e=>ac (dK (XS (!a.2.2.1)) V8) rfl) ?_
 refine zz (fun _ e=>ac (dK (UH g a.2.1 (Xw (!a.2.2.1)) (by omega) ⟨by omega,by rw[WW]; decide⟩) QaF) rfl) ?_
 refine zz (fun _ e=>ac (QC (d) (VL (e.v rfl) (e.v rfl) rfl)) rfl) ?_
 refine z7 ?_
 refine zz (fun _ e=>day rfl (e.k rfl) (dK (XS a.2.2.1) V8) rfl) ?_
 refine zz (fun _ e=>day rfl (e.k rfl) (dK (UH i a.2.1 (Xw a.2.2.1) (by omega) ⟨by omega,by rw[WW]; decide⟩) QaF) rfl) ?_
 exact y3
 refine Qd<|fqB l ?_
 exact Qtu ‹_› ‹_› ‹_› (x:=i) (y:=g) ‹_› ‹_› f ‹_› ‹_›
 refine w6 ?_
 refine Qd<|fqB l ?_
 exact Qvb ‹_› ‹_› ‹_› (x:=i) (y:=g) ‹_› ‹_› f ‹_›
end Go.Proofs.YtgpdhgadmjfokaaGreat
