/- Walks over abstract states: the state graph, both sides. -/
import Derived.Test.YtndabgcpnmeeoaaGreatMWp
set_option linter.unusedSimpArgs false
set_option linter.unusedVariables false
set_option linter.unusedSectionVars false
namespace Go.Proofs.YtndabgcpnmeeoaaGreat
open Go.RowKit
set_option maxRecDepth 100000
set_option maxHeartbeats 4000000
def V1:Nat→List ByteArray→List UInt8→List ByteArray
 | _,c,[]=>c
 | i,c,v :: vs=>V1 (i+1) (c.set i ((c[i]?).getD ByteArray.empty++⟨#[v]⟩)) vs
def goS (n:Nat)(arcs:List DAr):Nat→Nat→List ByteArray→Option (List ByteArray)
 | 0,_,c=>some c
 | f+1,k,c=>if (Vh n arcs (k:Int)).2=true then goS n arcs f (k+1) (V1 0 c (Vh n arcs (k:Int)).1) else none
section
variable {n f k i m:Nat}{arcs:List DAr}{c codes:List ByteArray}{vs us:List UInt8}{v:UInt8}{x:ByteArray}
theorem QfE (hv:vs[i]? =some v)(a:c[i]? =some x):V1 i c (vs.drop i)=V1 (i+1) (c.set i (x++⟨#[v]⟩)) (vs.drop (i+1)):=by
 rw[Yo hv,V1,a]
 rfl
theorem Qoj (h:vs.length≤i):V1 i c (vs.drop i)=c:=by rw[bR h,V1]
theorem Qib:∀(i:Nat) (c:List ByteArray) (vs:List UInt8),(V1 i c vs).length=c.length
 | _,_,[]=>by rw[V1]
 | i,c,v :: vs=>by rw[V1,Qib]; simp
theorem Qul (a:k < m)(h:(Vh n arcs (k:Int)).2=true):goS n arcs (m - k) k c=goS n arcs (m - (k+1)) (k+1) (V1 0 c (Vh n arcs (k:Int)).1):=by
 rw[show m - k=(m - (k+1))+1 by omega,goS,if_pos h]
theorem Qck (a:m≤k):goS n arcs (m - k) k c=some c:=by rw[show m - k=0 by omega,goS]
theorem QqV {j:Nat}(h:(Vh n arcs (j:Int)).2=false)(d:k≤j)(b:j < k+f):goS n arcs f k c=none:=by
 induction f generalizing k c with
 | zero=>omega
 | succ f a=>
  rw[goS]
  by_cases e:j=k
  ·subst e; rw[if_neg (by rw[h]; decide)]
  ·split
   ·exact a (by omega) (by omega)
   ·rfl
theorem Qkr (e:∀a∈arcs,InR n a)(sig:Int):(Vh n arcs sig).2=(l5V n arcs sig).2:=by
 rcases QcV (sig:=sig) e with ⟨b,d,_⟩ | ⟨us,b,_,d⟩
 ·rw[b,d]
 ·rw[b,d]
theorem QjN (h:¬0 < ((Wb n arcs m).length:Int))(d:k < m):(l5V n arcs (k:Int)).2=true:=by
 induction m with
 | zero=>omega
 | succ m b=>
  simp only[Wb,ai] at h
  by_cases e:k=m
  ·subst e
   cases a:(l5V n arcs (k:Int)).2 with
   | true=>rfl
   | false=>rw[a] at h; simp at h
  ·exact b (by omega) (by omega)
theorem UE (e:∀a∈arcs,InR n a)(h:0 < ((Wb n arcs m).length:Int)):goS n arcs m 0 c=none:=by
 have:∃j,j < m∧(l5V n arcs (j:Int)).2=false:=by
  induction m with
  | zero=>simp[Wb] at h
  | succ m g=>
   simp only[Wb,ai] at h
   cases b:(l5V n arcs (m:Int)).2 with
   | false=>exact ⟨m,by omega,b⟩
   | true=>
    rw[b] at h
    obtain ⟨j,o,d⟩:=g (by simpa using h)
    exact ⟨j,by omega,d⟩
 obtain ⟨j,l,b⟩:=this
 exact QqV ((Qkr e _).trans b) (aP _) (by omega)
theorem QpR (e:∀a∈arcs,InR n a)(sig:Int):(Vh n arcs sig).1.length≤n:=by
 rcases QcV (sig:=sig) e with ⟨_,_,_,b⟩ | ⟨us,_,d,b⟩
 ·rw[b]; exact aP _
 ·rw[b,aJ,d]; exact aK _
theorem Qiz {b:Nat}{y:ByteArray}(h:∀z∈c,z.size≤b)(d:c[i]? =some x)(g:y.size≤x.size+1):∀z∈c.set i y,z.size≤b+1:=fun z e=>by
 rcases cw e with a | a
 ·exact dp (h z a)
 ·rw[a]; have:=h x (ae d); omega
theorem Vy {ls:List Z3}{b:List DMv}{q:Nat}(h:∀v∈b,MvOk n q v):∀a∈QQ ls b,InR n a:=fun a g=>by
 obtain ⟨v,j,rfl⟩:=ba.1 g
 obtain ⟨d,_,e⟩:=h v j
 exact ⟨d,e⟩
theorem Qu9 {sig:Int}(g:∀a∈arcs,InR n a)(h:(l5V n arcs sig).2=true):∃us:List UInt8,(l5V n arcs sig).1=⟨us.toArray⟩∧us.length=n∧(l5V n arcs sig).1.size=n∧Vh n arcs sig=(us.map q0,true):=by
 rcases QcV (sig:=sig) g with ⟨b,_⟩ | ⟨us,b,d,e⟩
 ·rw[b] at h; cases h
 ·exact ⟨us,by rw[b],d,by rw[b,← d]; rfl,e⟩
theorem Qcr (b:ByteArray)(i:Nat):(b.extract i (i+1)).size≤1:=by simp only[aZ]; omega
theorem Qv2 (d:us[i]? =some v):(⟨us.toArray⟩:ByteArray).extract i (i+1)=⟨#[v]⟩:=by
 apply ByteArray.ext
 simp only[ByteArray.data_extract]
 obtain ⟨e,a⟩:=ah.1 d
 apply Array.ext
 ·simp; omega
 ·intro j g b
  have:j=0:=by simp at b; omega
  subst this
  simp[a]
theorem QtI (a:us[i]? =some v):(us.map q0)[i]? =some (q0 v):=by rw[bg,a]; rfl
theorem QoU {b:ByteArray}(hb:b=⟨us.toArray⟩)(hi:i < us.length)(g:decide (b.extract i (i+1)=⟨#[63]⟩)=true)(h:c[i]? =some x):V1 i c ((us.map q0).drop i)=V1 (i+1) (c.set i (x++⟨#[48]⟩)) ((us.map q0).drop (i+1)):=by
 have d:=aj hi
 have a:=ab g
 rw[hb,Qv2 d] at a
 have e:us[i]=63:=by
  have:=congrArg (fun b:ByteArray=>b.data[0]?) a
  simpa using this
 have:=QfE (QtI d) h
 rwa [show q0 us[i]=48 by rw[e]; rfl] at this
theorem Qoz {b:ByteArray}(hb:b=⟨us.toArray⟩)(hi:i < us.length)(g:decide (b.extract i (i+1)=⟨#[63]⟩)=false)(h:c[i]? =some x):V1 i c ((us.map q0).drop i)=V1 (i+1) (c.set i (x++b.extract i (i+1))) ((us.map q0).drop (i+1)):=by
 have d:=aj hi
 have a:=aa g
 rw[hb,Qv2 d] at a ⊢
 have:=QfE (QtI d) h
 rwa [show q0 us[i]=us[i] by unfold q0; rw[if_neg]; intro e; exact a (by rw[e])] at this
theorem QpS (h:us.length≤i):V1 i c ((us.map q0).drop i)=c:=Qoj (by simpa using h)
end
section
variable [∀s,Decidable (StgOk s)]{s:ZK}{c:List ByteArray}
def Qbf:List (ByteArray×Int)×List ByteArray×List DAr:=([],[],[])
def sgV (s:ZK):(List (ByteArray×Int)×List ByteArray×List DAr)×Bool:=
 if (Qm s).2=true∧¬4000 < (Qm s).1.2.length then
  (match goS (Qm s).1.1.length (QQ s.2.2.1 (Qm s).1.2) s.2.1.length 0 (List.replicate (Qm s).1.1.length ByteArray.empty) with
  | some c=>((s.2.1,c,QQ s.2.2.1 (Qm s).1.2),true)
  | none=>(Qbf,false))
 else (Qbf,false)
theorem Qb3 (h:(Qm s).2=false):sgV s=(Qbf,false):=if_neg fun a=>by rw[h] at a; cases a.1
theorem Qcx (h:(4000:Int) < ((Qm s).1.2.length:Int)):sgV s=(Qbf,false):=if_neg fun a=>a.2 (by omega)
theorem QcA (h:goS (Qm s).1.1.length (QQ s.2.2.1 (Qm s).1.2) s.2.1.length 0 (List.replicate (Qm s).1.1.length ByteArray.empty)=none):sgV s=(Qbf,false):=by
 unfold sgV
 rw[h]
 split <;> rfl
theorem H9 (a:(Qm s).2=true)(b:¬(4000:Int) < ((Qm s).1.2.length:Int))(h:goS (Qm s).1.1.length (QQ s.2.2.1 (Qm s).1.2) s.2.1.length 0 (List.replicate (Qm s).1.1.length ByteArray.empty)=some c):
 sgV s=((s.2.1,c,QQ s.2.2.1 (Qm s).1.2),true):=by
 unfold sgV
 rw[if_pos ⟨a,by omega⟩,h]
end
theorem Zg (s:QjW)[∀s,Decidable (StgOk s)]:FC Tryz.prog 132 [(true,[dI s.1.1, .dat XM s.1.2, .dat Ql s.2.1, .dat Y9 s.2.2.1,dS s.2.2.2])] [] 0 (Is (PV.tup [(true,[.ref 0, .ref 1, .ref 2]),(false,[dB ((sgV s).2)])]) [ar 0 77 Zw (((sgV s).1).1),ar 1 9 .str (((sgV s).1).2.1),ar 2 154 YE (((sgV s).1).2.2)]):=by
 refine Qp Tryz.func132 rfl rfl Tryz.ntmps132 fun O_ T b9 a5 X_ a7 a6=> ?_
 refine acG 0 0 fun _=> ?_
 refine w_ ?_
 refine xbx 0 ?_
 refine lc (xal 1 Xn Zt) ?_
 refine w4 ?_
 refine lc (dG 2 (QbP s) QiV) ?_
 refine w3 ?_
 refine lc (xal 4 QvC QgO) ?_
 refine w8 ?_
 cases b2:((Qm s).2)
 refine w15 ?_
 refine lc (Qq Qf9 rfl (av.1 rfl) rfl rfl) ?_
 refine w3 ?_
 refine AC.wk (QZ 5 (p:=1) (off:=0) 77 Zw rfl rfl (Fresh.of rfl) (nlr rfl))<|AC.wk (QZ 6 (p:=1) (off:=1) 9 .str rfl rfl (Fresh.of rfl) (nlr rfl))<|AC.wk (QZ 7 (p:=1) (off:=2) 154 YE rfl rfl (Fresh.of rfl) (nlr rfl))<|Qd ?_
 have e3:(false:Bool)=((sgV s).2):=by
  (rw[Qb3 ‹_›]; done)
 exact fi_ [(0,5),(1,6),(2,7)] T ⟨(Qk (by (rw[Qb3 ‹_›]; rfl))),(Qk (by (rw[Qb3 ‹_›]; rfl))),(Qk (by (rw[Qb3 ‹_›]; rfl))),trivial⟩ (h0:=by rw[← e3] <;> rfl)
 refine w2 ?_
 refine lgy rfl rfl (QbK 8 (QbT s ((Qm s).1) (Yj (s:=s) ‹_›).2.2.2.2.1 (by have:=(Yj (s:=s) ‹_›).2.2.1; omega) (by have:=Qik (Yj (s:=s) ‹_›).1.sigs; omega)) QjK ⟨_,_,rfl,(Ev.b (Qo rfl)),⟨_,_,rfl,(JZ (Qo rfl) ⟨_,_,rfl, .inr ⟨_,_,_,_,rfl,rfl,rfl⟩,⟨_,_,rfl, .inr ⟨_,_,_,_,rfl,rfl,rfl⟩,rfl⟩⟩),rfl⟩⟩ rfl (Fresh.of rfl) (nlr rfl)) ?_
 refine w4 ?_
 cases I:(decide (0 < ((Wb ((Qm s).1).1.length (QQ s.2.2.1 ((Qm s).1).2) s.2.1.length).length:Int)))
 have J:=aa I
 refine w6 ?_
 refine cd_ (fun _ _=> ?_) fun _ _=> ?_
 refine w_ ?_
 obtain ⟨a2,a9,b0,b1,D,a8⟩:=Yj (s:=s) ‹_›
 have a0:=Vy (ls:=s.2.2.1) D
 have b6:=Qik a2.sigs
 apply dW [⟨some 36,lR 9,[ar 9 77 Zw ([])]⟩,io 37 (lP 0 2),io 38 (lf (.dat Ql s.2.1)),⟨some 39,lR 10,[ar 10 77 Zw (([])++s.2.1),(9,none)]⟩,io 40 (lP 4 0),io 41 (lR 2),io 42 (lI ((((Qm s).1).1).length:Int)),⟨some 43,lR 11,[ar 11 9 .str (List.replicate ((((Qm s).1).1).length) (Ty.zero .str))]⟩,io 44 (ag [.ref 10, .ref 11, .val (.slice none 0 0)]),⟨some 6,lP 12 0,[bx 12 28 [.val (.slice none 0 0), .val (.slice none 0 0), .val (.slice none 0 0)]]⟩,⟨none,lf (.val undef),[bx 12 28 [.ref 10, .ref 11, .val (.slice none 0 0)]]⟩] [0,1,1,0,15,15,15,15,0,511,0]
 refine zz (fun _ d=>ac (dBs 9 (e:=Zw) HI) rfl) ?_
 refine z2 ?_
 refine zz (fun _ d=>ac (Z4 10 (d.v rfl) (d.en 9 rfl) (Evl.rep (d.v rfl)) rfl Qjl QgW (by first | omega | (simp only[ai,aJ,ap,au,aO]; omega) | (simp only[ai,bG,ap,au,aO]; omega)) rfl (d.fr 10 rfl) (nlr rfl)) rfl) ?_
 refine z3 ?_
 refine zz (fun _ d=>ac (Xr 11 (e:= .str) (n:=(((Qm s).1).1).length) (d.v rfl) (d.v rfl) Qbq Qwu rfl (by omega) (by omega) rfl (d.fr 11 rfl) (nlr rfl)) rfl)<|zz (fun _ d=>ac (Qq Qf9 ⟨_,_,rfl,(d.w rfl),⟨_,_,rfl,(d.w rfl),rfl⟩⟩ (av.1 (by simp only[ZC,JH,bF,cB]; rw[(d.en 10 rfl),(d.en 11 rfl)]; rfl)) rfl rfl) rfl)<|zz (fun _ d=>ac (Vz 12 Xn Zt rfl rfl (d.fr 12 rfl) (nlr rfl)) rfl)<|zz (fun _ d=>ac (Yn (d.v rfl) (d.en 12 rfl) (d.w rfl) (by simp only[ZC,JH,bF,cB]; rw[(d.en 10 rfl),(d.en 11 rfl)]; rfl) ZM rfl) rfl) ?_
 exact zN
 refine w4 ?_
 refine alL 46 fun _=> ?_
 refine w4 ?_
 refine QD (fun O Q=>∃(k:Nat) (codes:List ByteArray),k≤s.2.1.length∧O=s.2.1.length - k∧(goS (Qm s).1.1.length (QQ s.2.2.1 (Qm s).1.2) s.2.1.length 0 (List.replicate (Qm s).1.1.length ByteArray.empty)=goS (Qm s).1.1.length (QQ s.2.2.1 (Qm s).1.2) (s.2.1.length - k) k codes)∧(codes.length=(Qm s).1.1.length)∧(∀c∈codes,c.size≤300*k)∧Q=⟨[(1,lP 0 0),(2,lP 1 0),(3,lB false),(4,lP 4 0),(6,lP 12 0),(47,lI (s.2.1.length:Int)),(48,lI (k:Int))],[bx 0 51 [dI s.1.1, .dat XM s.1.2, .dat Ql s.2.1, .dat Y9 s.2.2.1,dS s.2.2.2],bx 1 28 [.val (.slice none 0 0), .val (.slice none 0 0), .val (.slice none 0 0)],ar 2 9 .str (((Qm s).1).1),ar 3 301 Z6 (((Qm s).1).2),bx 4 178 [.ref 2, .ref 3],ar 10 77 Zw (([])++s.2.1),bx 12 28 [.ref 10, .ref 13, .val (.slice none 0 0)],ar 13 9 .str codes]⟩) ⟨0,List.replicate ((((Qm s).1).1).length) (Ty.zero .str),aP _,rfl,rfl,(by simp),(fun c Z=>by rw[cW Z]; exact aP _),rfl⟩ ?_ ?_
 exact wp [(13,11)] ⟨rfl,rfl,rfl,rfl,rfl,rfl,rfl,(Qk (by first | rfl | simp)),trivial⟩
 rintro O Q ⟨k,codes,b3,b4,H,hL,hZ,rfl⟩
 refine w4 ?_
 cases K:(decide ((k:Int) < (s.2.1.length:Int)))
 have L:=aa K
 refine w11 ?_
 refine AC.wk (QZ 14 (p:=12) (off:=2) 154 YE rfl rfl (Fresh.of rfl) (nlr rfl)) ?_
 refine lp0 ((((Qm s).1).2).length) (fun j=>⟨[(1,lP 0 0),(2,lP 1 0),(3,lB false),(6,lP 12 0),(82,lR 3),(83,lI ((((Qm s).1).2).length:Int)),(84,lI (j:Int))],[bx 0 51 [dI s.1.1, .dat XM s.1.2, .dat Ql s.2.1, .dat Y9 s.2.2.1,dS s.2.2.2],bx 1 28 [.val (.slice none 0 0), .val (.slice none 0 0), .val (.slice none 0 0)],ar 3 301 Z6 (((Qm s).1).2),ar 10 77 Zw (([])++s.2.1),bx 12 28 [.ref 10, .ref 13, .ref 15],ar 13 9 .str codes,ar 15 154 YE ((((Qm s).1).2.take j).map (Ql1 s.2.2.1))]⟩) ?_ fun j _=> ?_
 exact wp [(15,14)] ⟨rfl,rfl,rfl,rfl,rfl,rfl,(Qk (by first | rfl | simp)),trivial⟩
 refine w4 ?_
 cases y:(decide ((j:Int) < ((((Qm s).1).2).length:Int)))
 have E:=aa y
 refine w9 ?_
 have W:(true:Bool)=((sgV s).2):=by
  (rw[H9 ‹_› ‹_› (H.trans (Qck (by omega)))]; done)
 exact fi_ [(0,10),(1,13),(2,15)] T ⟨(Qk (by (rw[H9 ‹_› ‹_› (H.trans (Qck (by omega)))]; rfl))),(Qk (by (rw[H9 ‹_› ‹_› (H.trans (Qck (by omega)))]; done))),(Qk (by (rw[H9 ‹_› ‹_› (H.trans (Qck (by omega))),Za (by omega)]; rfl))),trivial⟩ (h0:=by rw[← W] <;> rfl)
 have E:=ab y
 refine w6 ?_
 obtain ⟨P,B⟩:=gx (((Qm s).1).2) j
 have b5:=(D _ (ae B)).2.1
 refine w_ ?_
 refine lc (xal 16 Z6 UI) ?_
 refine w7 ?_
 refine alI 91 fun _=> ?_
 obtain ⟨t,N⟩:=gx s.2.2.1 ((P.2.1).toNat)
 have a1:=Qgd N
 refine w2 ?_
 refine lc (xal 17 Zk XY) ?_
 refine w7 ?_
 refine alI 97 fun _=> ?_
 refine w2 ?_
 refine alI 99 fun _=> ?_
 refine w4 ?_
 refine alI 103 fun _=> ?_
 refine lc (Qq QlU ⟨_,_,rfl,(Qo rfl),⟨_,_,rfl,(Qo rfl),⟨_,_,rfl,(Qo rfl),⟨_,_,rfl,(Qo rfl),rfl⟩⟩⟩⟩ (av.1 rfl) rfl rfl) ?_
 refine lc (dBs 18 (e:=YE) ZG (hab:=by exact ⟨_,_,_,_,rfl,⟨[dI P.1],[dI t.1,dB t.2,dI P.2.2],_,_,_,_,rfl,rfl,⟨rfl,rfl⟩,⟨[dI t.1],[dB t.2,dI P.2.2],_,_,_,_,rfl,rfl,⟨rfl,rfl⟩,⟨[dB t.2],[dI P.2.2],_,_,_,_,rfl,rfl,⟨rfl,rfl⟩,⟨rfl,rfl⟩,rfl⟩,rfl⟩,rfl⟩,⟨rfl,rfl⟩,rfl⟩)) ?_
 refine lc (dA 19 Qs4) ?_
 refine w2 ?_
 refine Qb ?_
 refine w4 ?_
 refine Qb ?_
 refine l0_ ?_
 exact wp [(15,19)] ⟨rfl,rfl,rfl,rfl,rfl,rfl,(Qk (by rw[Qw B]; simp[Ql1,a1])),trivial⟩
 have L:=ab K
 refine w12 ?_
 refine lc (Vn (Uy s ((Qm s).1) (k:Int) D (by omega)) Qdn ⟨_,_,rfl,(Ev.b (Qo rfl)),⟨_,_,rfl,(JZ (Qo rfl) ⟨_,_,rfl, .inr ⟨_,_,_,_,rfl,rfl,rfl⟩,⟨_,_,rfl, .inr ⟨_,_,_,_,rfl,rfl,rfl⟩,rfl⟩⟩),⟨_,_,rfl,(Ev.b (Qo rfl)),rfl⟩⟩⟩ rfl rfl rfl) ?_
 refine w6 ?_
 refine Zy ?_
 obtain ⟨us,u,b7,b8,M⟩:=Qu9 (sig:=(k:Int)) a0 (QjN (m:=s.2.1.length) ‹_› (by omega))
 refine w7 ?_
 refine QD (fun O Q=>∃(i:Nat) (a:List ByteArray),i≤codes.length∧O=codes.length - i∧(V1 0 codes (us.map q0)=V1 i a ((us.map q0).drop i))∧(a.length=(Qm s).1.1.length)∧(∀c∈a,c.size≤300*k+i)∧Q=⟨[(1,lP 0 0),(2,lP 1 0),(3,lB false),(4,lP 4 0),(6,lP 12 0),(7,lI (k:Int)),(8,lf (dS ((l5V ((Qm s).1).1.length (QQ s.2.2.1 ((Qm s).1).2) (k:Int)).1))),(47,lI (s.2.1.length:Int)),(48,lI (k:Int)),(49,lB true),(50,lI (k:Int)),(51,PV.tup [(false,[dS ((l5V ((Qm s).1).1.length (QQ s.2.2.1 ((Qm s).1).2) (k:Int)).1)]),(false,[dB ((l5V ((Qm s).1).1.length (QQ s.2.2.1 ((Qm s).1).2) (k:Int)).2)])]),(52,ag [dI s.1.1, .dat XM s.1.2, .dat Ql s.2.1, .dat Y9 s.2.2.1,dS s.2.2.2]),(53,ag [.ref 2, .ref 3]),(54,lI (k:Int)),(55,PV.tup [(false,[dS ((l5V ((Qm s).1).1.length (QQ s.2.2.1 ((Qm s).1).2) (k:Int)).1)]),(false,[dB ((l5V ((Qm s).1).1.length (QQ s.2.2.1 ((Qm s).1).2) (k:Int)).2)])]),(56,lf (dS ((l5V ((Qm s).1).1.length (QQ s.2.2.1 ((Qm s).1).2) (k:Int)).1))),(57,lB ((l5V ((Qm s).1).1.length (QQ s.2.2.1 ((Qm s).1).2) (k:Int)).2)),(58,lP 12 1),(60,lI (codes.length:Int)),(61,lI (i:Int))],[bx 0 51 [dI s.1.1, .dat XM s.1.2, .dat Ql s.2.1, .dat Y9 s.2.2.1,dS s.2.2.2],bx 1 28 [.val (.slice none 0 0), .val (.slice none 0 0), .val (.slice none 0 0)],ar 2 9 .str (((Qm s).1).1),ar 3 301 Z6 (((Qm s).1).2),bx 4 178 [.ref 2, .ref 3],ar 10 77 Zw (([])++s.2.1),bx 12 28 [.ref 10, .ref 20, .val (.slice none 0 0)],ar 20 9 .str a]⟩) ⟨0,codes,aP _,rfl,rfl,hL,hZ,rfl⟩ ?_ ?_
 exact wo [(20,13)]
 rintro O Q ⟨i,a,a3,a4,q,C,r,rfl⟩
 refine w4 ?_
 cases z:(decide ((i:Int) < (codes.length:Int)))
 have F:=aa z
 refine w6 ?_
 refine Qb<|Zb ⟨k+1,a,by omega,rfl,(by rw[H,Qul (by omega) (by rw[M])]; exact congrArg _ (by rw[M]; exact q.trans (QpS (by omega)))),C,(fun c Z=>bu (r c Z) (by omega)),rfl⟩ (by omega) ?_
 exact wo [(13,20)]
 have F:=ab z
 refine w13 ?_
 refine lc (show Does _ _ _ _ (St.put _ 68 (lf (dS (((l5V ((Qm s).1).1.length (QQ s.2.2.1 ((Qm s).1).2) (k:Int)).1).extract ((i:Int)).toNat ((i:Int)+1).toNat)))) from Zj (l:=(some (i:Int))) (h:=(some ((i:Int)+1))) (Qa rfl) (by exact (Qa rfl)) (by exact (Qa rfl)) Zz rfl (by first | omega | (simp only[ao,ak]; omega)) (by first | omega | (simp only[ao,ak]; omega)) (by first | omega | (simp only[ao,ak]; omega))) ?_
 refine w7 ?_
 cases A:(decide ((((l5V ((Qm s).1).1.length (QQ s.2.2.1 ((Qm s).1).2) (k:Int)).1).extract ((i:Int)).toNat ((i:Int)+1).toNat)=(⟨#[63]⟩:ByteArray)))
 have G:=aa A
 refine w7 ?_
 obtain ⟨R,g⟩:=gx a i
 have U:=r _ (ae g)
 refine w2 ?_
 refine lc (QA (Qa rfl) (Qa rfl) rfl (by first | (simp only[Zh]; omega) | (refine bu (cF (Qcr _ i) _) ?_; omega))) ?_
 refine w_ ?_
 refine lc (Qt (e:= .str) (z':=R++(((l5V ((Qm s).1).1.length (QQ s.2.2.1 ((Qm s).1).2) (k:Int)).1).extract ((i:Int)).toNat ((i:Int)+1).toNat)) (Qa rfl) rfl g rfl (Qo rfl) rfl UA rfl rfl)<|Qb ?_
 refine w4 ?_
 refine Qb<|Zb ⟨i+1,(a.set i (R++(((l5V ((Qm s).1).1.length (QQ s.2.2.1 ((Qm s).1).2) (k:Int)).1).extract ((i:Int)).toNat ((i:Int)+1).toNat))),by omega,rfl,by first | exact q.trans (QoU u (by omega) ‹_› g) | exact q.trans (Qoz u (by omega) ‹_› g),(by rw[ay]; exact C),(Qiz r g (by rw[aA]; first | exact aK _ | exact cF (Qcr _ _) _)),rfl⟩ (by omega) ?_
 exact wp [] ⟨rfl,rfl,rfl,rfl,rfl,rfl,rfl,(Qk (by first | rfl | simp)),trivial⟩
 have G:=ab A
 refine w9 ?_
 obtain ⟨S,o⟩:=gx a i
 have V:=r _ (ae o)
 refine w2 ?_
 refine lc (QA (Qa rfl) (Qa rfl) rfl (by first | (simp only[Zh]; omega) | (refine bu (cF (Qcr _ i) _) ?_; omega))) ?_
 refine w_ ?_
 refine lc (Qt (e:= .str) (z':=S++(⟨#[48]⟩:ByteArray)) (Qa rfl) rfl o rfl (Qo rfl) rfl UA rfl rfl)<|Qb ?_
 refine w4 ?_
 refine Qb<|Zb ⟨i+1,(a.set i (S++(⟨#[48]⟩:ByteArray))),by omega,rfl,by first | exact q.trans (QoU u (by omega) ‹_› o) | exact q.trans (Qoz u (by omega) ‹_› o),(by rw[ay]; exact C),(Qiz r o (by rw[aA]; first | exact aK _ | exact cF (Qcr _ _) _)),rfl⟩ (by omega) ?_
 exact wp [] ⟨rfl,rfl,rfl,rfl,rfl,rfl,rfl,(Qk (by first | rfl | simp)),trivial⟩
 refine w_ ?_
 refine lc (Qq Qf9 rfl (av.1 rfl) rfl rfl) ?_
 refine w3 ?_
 refine AC.wk (QZ 21 (p:=1) (off:=0) 77 Zw rfl rfl (Fresh.of rfl) (nlr rfl))<|AC.wk (QZ 22 (p:=1) (off:=1) 9 .str rfl rfl (Fresh.of rfl) (nlr rfl))<|AC.wk (QZ 23 (p:=1) (off:=2) 154 YE rfl rfl (Fresh.of rfl) (nlr rfl))<|Qd ?_
 have X:(false:Bool)=((sgV s).2):=by
  (rw[Qcx ‹_›]; done)
 exact fi_ [(0,21),(1,22),(2,23)] T ⟨(Qk (by (rw[Qcx ‹_›]; rfl))),(Qk (by (rw[Qcx ‹_›]; rfl))),(Qk (by (rw[Qcx ‹_›]; rfl))),trivial⟩ (h0:=by rw[← X] <;> rfl)
 have J:=ab I
 refine w8 ?_
 refine lc (Qq Qf9 rfl (av.1 rfl) rfl rfl) ?_
 refine w3 ?_
 refine AC.wk (QZ 24 (p:=1) (off:=0) 77 Zw rfl rfl (Fresh.of rfl) (nlr rfl))<|AC.wk (QZ 25 (p:=1) (off:=1) 9 .str rfl rfl (Fresh.of rfl) (nlr rfl))<|AC.wk (QZ 26 (p:=1) (off:=2) 154 YE rfl rfl (Fresh.of rfl) (nlr rfl))<|Qd ?_
 have Y:(false:Bool)=((sgV s).2):=by
  (rw[QcA (UE (Vy (Yj ‹_›).2.2.2.2.1) ‹_›)]; done)
 exact fi_ [(0,24),(1,25),(2,26)] T ⟨(Qk (by (rw[QcA (UE (Vy (Yj ‹_›).2.2.2.2.1) ‹_›)]; rfl))),(Qk (by (rw[QcA (UE (Vy (Yj ‹_›).2.2.2.2.1) ‹_›)]; rfl))),(Qk (by (rw[QcA (UE (Vy (Yj ‹_›).2.2.2.2.1) ‹_›)]; rfl))),trivial⟩ (h0:=by rw[← Y] <;> rfl)
end Go.Proofs.YtndabgcpnmeeoaaGreat
namespace Go.Proofs.YtndabgcpnmeeoaaGreat
open Go.RowKit
set_option maxRecDepth 100000
set_option maxHeartbeats 4000000
abbrev DRg:=List ByteArray×List DMv
instance (n m:Nat) (v:DMv):Decidable (MvOk n m v):=inferInstanceAs (Decidable (_∧_))
def QlK (r:DRg):Prop:=(1≤r.1.length∧r.1.length≤300)∧r.2.length≤4000∧r.1.Nodup∧∀v∈r.2,MvOk r.1.length 24 v
instance (r:DRg):Decidable (QlK r):=inferInstanceAs (Decidable (_∧_))
def Qys (l:List ByteArray):List (ByteArray×Bool):=l.foldl (fun m x=>Ke .str m x true) []
section
variable {r:DRg}{k:Nat}{x y:ByteArray}{v:DMv}{l:List ByteArray}{m:List (ByteArray×Bool)}
end
def QqB (f:Int→Bool):Nat→List Int
 | 0=>[]
 | k+1=>QqB f k++(if f (k:Int)=true then [] else [(k:Int)])
section
variable {f:Int→Bool}{k n:Nat}{α:Type _}{l:List α}{p:α→Bool}{x:α}
end
def byT (r:DRg)(t:Int):Bool:=r.2.any fun v=>decide (v.2.1=t)
def QwU (r:DRg)(t:Int):Bool:=r.2.any fun v=>decide (v.1=t)
def mfV (r:DRg)(k:Int):List DMv×Bool:=if QlK r∧0≤k∧k < r.1.length then (r.2.filter fun v=>decide (v.1=k),true) else ([],false)
def dlV (r:DRg):List Int×Bool:=if QlK r then (QqB (QwU r) r.1.length,true) else ([],false)
section
variable [∀s,Decidable (StgOk s)]
def dtV (s:ZK)(r:DRg):List Int×Bool:=if StgOk s∧QlK r then (QqB (byT r) s.2.2.1.length,true) else ([],false)
end
def Qyy (k:Int)(ms:List DMv):List DMv:=ms.filter fun v=>decide (v.1=k)
end Go.Proofs.YtndabgcpnmeeoaaGreat
namespace Go.Proofs.YtndabgcpnmeeoaaGreat
open Go.RowKit
set_option maxRecDepth 100000
set_option maxHeartbeats 4000000
section
variable {α:Type}[DecidableEq α]{a b:List α}{k:Nat}{x y:α}
end
section
variable [∀s,Decidable (StgOk s)]
def Qpm (s:ZK):List Int:=(dtV s (Qm s).1).1
def Qo0 (s:ZK):Bool:=decide ((0:Int) < ((dlV (Qm s).1).1.length:Int))
def frV (s:ZK):List Int×Bool×Bool:=if (sgV s).2=true then (Qpm s,Qo0 s,true) else ([],false,false)
def pfI (a b:ZK):Bool×Bool:=if (frV a).2.2=true∧(frV b).2.2=true∧a.2.1=b.2.1∧a.2.2.1=b.2.2.1 then (decide ((frV a).1=(frV b).1)&&(!(frV b).2.1||(frV a).2.1),true) else (false,false)
def pfV (a b:ZK):Bool×Bool:=if (sgV a).2=true∧(sgV b).2=true∧a.2.1=b.2.1∧a.2.2.1=b.2.2.1 then (decide (Qpm a=Qpm b)&&(Qo0 a|| !Qo0 b),true) else (false,false)
section
variable {a b:ZK}
end
end
end Go.Proofs.YtndabgcpnmeeoaaGreat
namespace Go.Proofs.YtndabgcpnmeeoaaGreat
open Go.RowKit
set_option maxRecDepth 100000
set_option maxHeartbeats 4000000
theorem QS {A:Amb}{P:Program}{o:Oper}{s:St}{d:Nat}{b b':Bool}(e:b=b')(h:Does A P o s (s.put d (lf (dB b)))):Does A P o s (s.put d (lf (dB b'))):=e▸h
abbrev DSg:=List (ByteArray×Int)×List ByteArray×List DAr
theorem J2 (ss:List Qz)[Decidable (XA ss)]:FC Tryz.prog 176 [(false,[.dat (.sl 77 Xb) ss])] [] 0 (QX (lf (dB (decide (XA ss))))):=Qgk fun e w f h=>by
 obtain ⟨v,rfl,b⟩:=h.leaf1
 exact (QcD v ss w b).mono fun _ _ h=>Qal h
theorem Qag (ss:List Qz)[Decidable (XA ss)]:FC Tryz.prog 214 [(false,[.dat (.sl 77 Xb) ss])] [] 0 (QX (lf (dB (decide (XA ss))))):=Qgk fun e w f h=>by
 obtain ⟨v,rfl,b⟩:=h.leaf1
 exact (JW v ss w b).mono fun _ _ h=>Qal h
def UM (n:Int)(l:Z3):Prop:=(0≤l.1∧l.1≤n - 1)∨(l.1= -1∧l.2=false)
instance (n:Int) (l:Z3):Decidable (UM n l):=inferInstanceAs (Decidable (_∨_))
def YM (s:ByteArray)(n:Int):Prop:=(∀c∈s.toList,c=48∨c=49)∧(s.size:Int)=n
instance (s:ByteArray) (n:Int):Decidable (YM s n):=inferInstanceAs (Decidable (_∧_))
section
variable {n:Int}{l:Z3}{s x y:ByteArray}{k:Nat}{c d:UInt8}{a:DAr}
theorem Qmu (h:0≤l.1∧l.1≤n - 1):true=decide (UM n l):=(aE (.inl h)).symm
theorem Qom (h:¬(0≤l.1∧l.1≤n - 1)):Ty.beq Qbk l (-1,false)=decide (UM n l):=by
 rw[co,Ty.beq_iff,aT]
 constructor
 ·rintro rfl; exact .inr ⟨rfl,rfl⟩
 ·rintro (b | b)
  ·exact absurd b h
  ·exact Prod.ext b.1 b.2
theorem QtU (h:¬(0≤l.1∧l.1≤n - 1))(e:l.1= -1):(!l.2)=decide (UM n l):=by
 rw[co,aT]
 constructor
 ·intro b; exact .inr ⟨e,by simpa using b⟩
 ·rintro (b | b)
  ·exact absurd b h
  ·simp[b.2]
theorem QtZ (h:¬(0≤l.1∧l.1≤n - 1))(e:¬l.1= -1):false=decide (UM n l):=(aB (by rintro (b | b); exact h b; exact e b.1)).symm
theorem Jl (h:s[((k:Int)).toNat]? =some c):s.toList[k]? =some c:=by
 have h:s[k]? =some c:=h
 rw[bp]
 obtain ⟨b,e⟩:∃b:k < s.size,s[k]=c:=by
  by_cases b:k < s.size
  ·rw[dC s k b] at h; exact ⟨b,di h⟩
  ·rw[getElem?_neg s k b] at h; cases h
 rw[aj (by simpa using b)]
 rw[← e]; simp; rfl
theorem Jw (f:∀j,j < k→∀c,s.toList[j]? =some c→c=48∨c=49)(g:s[((k:Int)).toNat]? =some c)(h:c=48∨c=49):∀j,j < k+1→∀c,s.toList[j]? =some c→c=48∨c=49:=fun j i d b=>by
 by_cases e:j=k
 ·subst e; rw[Jl g] at b; cases b; exact h
 ·exact f j (by omega) d b
theorem QlG (f:s[((k:Int)).toNat]? =some c)(b:¬c=48)(e:¬c=49):false=decide (YM s n):=(aB fun h=>by
 rcases h.1 c (ae (Jl f)) with h | h
 ·exact b h
 ·exact e h).symm
theorem Qh2 (e:∀j,j < k→∀c,s.toList[j]? =some c→c=48∨c=49)(g:s.size≤k):decide ((s.size:Int)=n)=decide (YM s n):=bX.2 ⟨fun h=>⟨fun c f=>by
 obtain ⟨j,b⟩:=aL.1 f
 have:=(ah.1 b).1
 rw[We] at this
 exact e j (by omega) c b,h⟩,fun h=>h.2⟩
def Y8 (a:DAr)(x y:ByteArray)(j:Nat):Prop:=if (j:Int)=a.2.1 then (decide (bAt x j=49)= !a.2.2.1∧decide (bAt y j=49)=a.2.2.1) else bAt x j=bAt y j
instance (a:DAr) (x y:ByteArray) (j:Nat):Decidable (Y8 a x y j):=by unfold Y8; exact inferInstance
def Fit (a:DAr)(x y:ByteArray):Prop:=∀j,j < x.size→Y8 a x y j
instance (a:DAr) (x y:ByteArray):Decidable (Fit a x y):=by unfold Fit; exact inferInstance
theorem QhL (b:∀j,j < k→Y8 a x y j)(h:Y8 a x y k):∀j,j < k+1→Y8 a x y j:=fun j f=>by
 by_cases e:j=k
 ·subst e; exact h
 ·exact b j (by omega)
theorem Qjv (e:k < x.size)(h:¬Y8 a x y k):false=decide (Fit a x y):=(aB fun b=>h (b k e)).symm
theorem QrW (b:∀j,j < k→Y8 a x y j)(f:x.size≤k):true=decide (Fit a x y):=(aE fun j e=>b j (by omega)).symm
theorem Ko (h:¬(k:Int)=a.2.1)(b:x[((k:Int)).toNat]? =some c)(e:y[((k:Int)).toNat]? =some d):Y8 a x y k↔c=d:=by
 unfold Y8; rw[if_neg h,Zo b,Zo e]
theorem Qq8 (h:(k:Int)=a.2.1)(b:x[((k:Int)).toNat]? =some c)(e:y[((k:Int)).toNat]? =some d):Y8 a x y k↔(decide (c=49)= !a.2.2.1∧decide (d=49)=a.2.2.1):=by
 unfold Y8; rw[if_pos h,Zo b,Zo e]
theorem Qbi (h:(k:Int)=a.2.1)(g:x[((k:Int)).toNat]? =some c)(b:(decide (c=49)==a.2.2.1)=true):¬Y8 a x y k:=by
 unfold Y8; rw[if_pos h,Zo g]
 rintro ⟨e,_⟩
 rw[e] at b
 cases f:a.2.2.1 <;> rw[f] at b <;> cases b
theorem QaX (h:(k:Int)=a.2.1)(g:y[((k:Int)).toNat]? =some d)(b:(decide (d=49)==a.2.2.1)=false):¬Y8 a x y k:=by
 unfold Y8; rw[if_pos h,Zo g]
 rintro ⟨_,e⟩
 rw[e] at b
 cases f:a.2.2.1 <;> rw[f] at b <;> cases b
theorem Qe6 (h:(k:Int)=a.2.1)(j:x[((k:Int)).toNat]? =some c)(m:y[((k:Int)).toNat]? =some d)(b:(decide (c=49)==a.2.2.1)=false)(e:(decide (d=49)==a.2.2.1)=true):Y8 a x y k:=by
 rw[Qq8 h j m]
 cases f:a.2.2.1 <;> rw[f] at b e <;> cases g:decide (c=49) <;> rw[g] at b <;> cases i:decide (d=49) <;> rw[i] at e <;> first | exact ⟨rfl,rfl⟩ | exact absurd b (by decide) | exact absurd e (by decide)
def Hl (code:ByteArray)(sig:Int)(b:ByteArray):ByteArray:=(code.extract 0 sig.toNat++b)++code.extract (sig+1).toNat code.size
end
theorem KG (l:Int×Bool)(n:Int)(r:0≤n∧n≤1000000):FC Tryz.prog 263 [(true,[dI l.1,dB l.2]),(false,[dI n])] [] 0 (QX (lB (decide (UM n l)))):=by
 refine Qp Tryz.func263 rfl rfl Tryz.ntmps263 fun m f j g o i h=> ?_
 refine acG 0 0 fun _=> ?_
 refine acI 1 fun _=> ?_
 refine w_ ?_
 refine xbx 0 ?_
 refine w7 ?_
 refine lc (dK (Q9 l.1 0 (n - 1)) ZP) ?_
 refine w_ ?_
 cases b:(decide (0≤l.1∧l.1≤(n - 1)))
 have e:=aa b
 refine w_ ?_
 refine lgy rfl rfl (Qq XJ ⟨_,_,rfl,(Evl.ev (Qn rfl)),rfl⟩ (av.1 rfl) rfl rfl)<|lgy rfl rfl (K4 QdJ Qdd (Qo rfl) (Qo rfl) (p:=l) (q:=((-1),false)) rfl rfl rfl) ?_
 refine w3 ?_
 refine Qd<|fqB f ?_
 exact Qom ‹_›
 have e:=ab b
 refine w6 ?_
 refine Qd<|fqB f ?_
 exact Qmu ‹_›
theorem QbR (l:Int×Bool)(n:Int)(r:0≤n∧n≤1000000):FC Tryz.prog 350 [(true,[dI l.1,dB l.2]),(false,[dI n])] [] 0 (QX (lB (decide (UM n l)))):=by
 refine Qp Tryz.func350 rfl rfl Tryz.ntmps350 fun p h o i q m j=> ?_
 refine acG 0 0 fun _=> ?_
 refine acI 1 fun _=> ?_
 refine w_ ?_
 refine xbx 0 ?_
 refine w7 ?_
 refine lc (dK (Yw l.1 0 (n - 1)) Xd) ?_
 refine w_ ?_
 cases b:(decide (0≤l.1∧l.1≤(n - 1)))
 have e:=aa b
 refine w4 ?_
 cases f:(decide (l.1=(-1)))
 have g:=aa f
 refine w7 ?_
 refine Qd<|fqB h ?_
 exact QtZ ‹_› ‹_›
 have g:=ab f
 refine w7 ?_
 refine Qd<|fqB h ?_
 exact QtU ‹_› ‹_›
 have e:=ab b
 refine w4 ?_
 refine Qe rfl rfl rfl ?_ rfl
 refine Qe rfl rfl rfl ?_ rfl
 refine Qe rfl rfl rfl ?_ rfl
 refine w4 ?_
 refine Qd<|fqB h ?_
 exact Qmu ‹_›
theorem QdP (s:ByteArray)(n:Int):FC Tryz.prog 316 [(false,[dS s]),(false,[dI n])] [] 0 (QX (lB (decide (YM s n)))):=by
 refine Qp Tryz.func316 rfl rfl Tryz.ntmps316 fun z p w q A t r=> ?_
 refine acI 1 fun _=> ?_
 refine w8 ?_
 refine lpK s.size (fun k=>∀j,j < k→∀c,s.toList[j]? =some c→c=48∨c=49) (fun k=>⟨[(0,lf (dS s)),(1,lI n),(5,lI (k:Int))],[]⟩) ((fun j v=>absurd v (aW j))) ?_ fun k _ o=> ?_
 exact wo []
 refine w4 ?_
 refine alS 7 fun _=> ?_
 refine lc (Zd (Qa rfl) rfl Zz) ?_
 refine w2 ?_
 cases e:(decide ((k:Int) < (s.size:Int)))
 have f:=aa e
 refine w5 ?_
 refine alS 22 fun _=> ?_
 refine lc (Zd (Qa rfl) rfl Zz) ?_
 refine w4 ?_
 refine Qd<|fqB p ?_
 exact Qh2 o (by omega)
 have f:=ab e
 refine w7 ?_
 obtain ⟨b,u⟩:=gs s (((k:Int)).toNat)
 refine w_ ?_
 refine lc (QT (Qa rfl) (Q0 48 rfl) rfl) ?_
 refine w_ ?_
 cases g:(!decide (b=48))
 have h:(b=48):=Qu g
 refine w13 ?_
 refine Qb ?_
 refine lK_ ((Jw o ‹_› (by first | exact .inl ‹_› | exact .inr ‹_›))) ?_
 exact wo []
 have h:¬(b=48):=QE g
 refine w3 ?_
 refine lgy rfl rfl (QT (Qa rfl) (Q0 49 rfl) rfl) ?_
 refine w2 ?_
 cases i:(!decide (b=49))
 have m:(b=49):=Qu i
 refine w7 ?_
 refine Qb ?_
 refine lK_ ((Jw o ‹_› (by first | exact .inl ‹_› | exact .inr ‹_›))) ?_
 exact wo []
 have m:¬(b=49):=QE i
 refine w4 ?_
 refine Qd<|fqB p ?_
 exact QlG (k:=k) ‹_› ‹_› ‹_›
theorem QcY (s:ByteArray)(n:Int):FC Tryz.prog 216 [(false,[dS s]),(false,[dI n])] [] 0 (QX (lB (decide (YM s n)))):=by
 refine Qp Tryz.func216 rfl rfl Tryz.ntmps216 fun z p w q A t r=> ?_
 refine acI 1 fun _=> ?_
 refine w8 ?_
 refine lpK s.size (fun k=>∀j,j < k→∀c,s.toList[j]? =some c→c=48∨c=49) (fun k=>⟨[(0,lf (dS s)),(1,lI n),(5,lI (k:Int))],[]⟩) ((fun j v=>absurd v (aW j))) ?_ fun k _ o=> ?_
 exact wo []
 refine w4 ?_
 refine alS 7 fun _=> ?_
 refine lc (Zd (Qa rfl) rfl Zz) ?_
 refine w2 ?_
 cases e:(decide ((k:Int) < (s.size:Int)))
 have f:=aa e
 refine w5 ?_
 refine alS 22 fun _=> ?_
 refine lc (Zd (Qa rfl) rfl Zz) ?_
 refine w4 ?_
 refine Qd<|fqB p ?_
 exact Qh2 o (by omega)
 have f:=ab e
 refine w7 ?_
 obtain ⟨b,u⟩:=gs s (((k:Int)).toNat)
 refine w_ ?_
 refine lc (QT (Qa rfl) (Q0 48 rfl) rfl) ?_
 refine w_ ?_
 cases g:(!decide (b=48))
 have h:(b=48):=Qu g
 refine w13 ?_
 refine Qb ?_
 refine lK_ ((Jw o ‹_› (by first | exact .inl ‹_› | exact .inr ‹_›))) ?_
 exact wo []
 have h:¬(b=48):=QE g
 refine w3 ?_
 refine lgy rfl rfl (QT (Qa rfl) (Q0 49 rfl) rfl) ?_
 refine w2 ?_
 cases i:(!decide (b=49))
 have m:(b=49):=Qu i
 refine w7 ?_
 refine Qb ?_
 refine lK_ ((Jw o ‹_› (by first | exact .inl ‹_› | exact .inr ‹_›))) ?_
 exact wo []
 have m:¬(b=49):=QE i
 refine w4 ?_
 refine Qd<|fqB p ?_
 exact QlG (k:=k) ‹_› ‹_› ‹_›
theorem Qat (a:QnF)(x:ByteArray)(y:ByteArray)(J:x.size≤y.size):FC Tryz.prog 317 [(true,[dI a.1,dI a.2.1,dB a.2.2.1,dI a.2.2.2]),(false,[dS x]),(false,[dS y])] [] 0 (QX (lB (decide (Fit a x y)))):=by
 refine Qp Tryz.func317 rfl rfl Tryz.ntmps317 fun L u K E M G F=> ?_
 refine acG 0 0 fun _=> ?_
 refine acG 0 1 fun _=> ?_
 refine acG 0 3 fun _=> ?_
 refine w_ ?_
 refine xbx 0 ?_
 refine w5 ?_
 refine alS 8 fun _=> ?_
 refine lc (Zd (Qa rfl) rfl Zz) ?_
 refine w3 ?_
 refine lpK x.size (fun k=>∀j,j < k→Y8 a x y j) (fun k=>⟨[(1,lf (dS x)),(2,lf (dS y)),(3,lP 0 0),(9,lI (x.size:Int)),(10,lI (k:Int))],[bx 0 154 [dI a.1,dI a.2.1,dB a.2.2.1,dI a.2.2.2]]⟩) ((fun j I=>absurd I (aW j))) ?_ fun k _ z=> ?_
 exact wo []
 refine w4 ?_
 cases p:(decide ((k:Int) < (x.size:Int)))
 have q:=aa p
 refine w6 ?_
 refine Qd<|fqB u ?_
 exact QrW z (by omega)
 have q:=ab p
 refine w16 ?_
 cases r:(!decide ((k:Int)=a.2.1))
 have t:((k:Int)=a.2.1):=Qu r
 refine w_ ?_
 obtain ⟨w,H⟩:=gs x (((k:Int)).toNat)
 cases e:((decide (w=49))==a.2.2.1)
 obtain ⟨g,B⟩:=gs y (((k:Int)).toNat)
 apply dW (i3 26 _ _ _ (io 29 (lB (decide (w=49))) :: i2 30 _ _ (io 32 (lB false) :: i4 33 _ _ _ _ (io 37 (lB (decide (g=49))) :: i2 38 _ _ [io 40 (lB (!((decide (g=49))==a.2.2.1))),io 41 _,io 25 _])))) [0,1,0,0,15,15,0,0,0,256,0,0,3840,3840,0,0,0]
 refine z3 ?_
 refine zz (fun _ b=>ac (ZJ (b.v rfl) (Q0 49 rfl) rfl) rfl) ?_
 refine z2 ?_
 refine zz (fun _ b=>ac (QS (e) (QU (b.v rfl) (b.v rfl) rfl Zv)) rfl) ?_
 refine z4 ?_
 refine zz (fun _ b=>day rfl (b.k rfl) (ZJ (b.v rfl) (Q0 49 rfl) rfl) rfl) ?_
 refine z2 ?_
 refine zz (fun _ b=>day rfl (b.k rfl) (ZW (b.v rfl) (b.v rfl) rfl Zv) rfl) ?_
 exact y2
 cases A:((decide (g=49))==a.2.2.1)
 refine w4 ?_
 refine Qd<|fqB u ?_
 exact Qjv (k:=k) (by omega) (fun h=>by first | exact absurd ((Ko ‹_› ‹_› ‹_›).1 h) ‹_› | exact Qbi ‹_› ‹_› ‹_› h | exact QaX ‹_› ‹_› ‹_› h)
 refine w6 ?_
 refine Qb ?_
 refine lK_ ((QhL z (by first | exact (Ko ‹_› ‹_› ‹_›).2 ‹_› | exact Qe6 ‹_› ‹_› ‹_› ‹_› ‹_›))) ?_
 exact wo []
 apply dW (i3 26 _ _ _ (io 29 (lB (decide (w=49))) :: i2 30 _ _ (io 32 (lB true) :: i9 33 _ _ _ _ _ _ _ _ _ [io 25 _]))) [0,1,0,0,15,15,0,0,0,256,0,0,3840,3840,0,0,0]
 refine z3 ?_
 refine zz (fun _ b=>ac (ZJ (b.v rfl) (Q0 49 rfl) rfl) rfl) ?_
 refine z2 ?_
 refine zz (fun _ b=>ac (QS (e) (QU (b.v rfl) (b.v rfl) rfl Zv)) rfl) ?_
 exact y10
 refine w4 ?_
 refine Qd<|fqB u ?_
 exact Qjv (k:=k) (by omega) (fun h=>by first | exact absurd ((Ko ‹_› ‹_› ‹_›).1 h) ‹_› | exact Qbi ‹_› ‹_› ‹_› h | exact QaX ‹_› ‹_› ‹_› h)
 have t:¬((k:Int)=a.2.1):=QE r
 refine w_ ?_
 obtain ⟨i,C⟩:=gs x (((k:Int)).toNat)
 obtain ⟨m,D⟩:=gs y (((k:Int)).toNat)
 apply dW (i7 18 _ _ _ _ _ _ _ []) [0,1,0,7,15,7,0]
 exact y7
 cases f:(!decide (i=m))
 have o:(i=m):=Qu f
 refine w6 ?_
 refine Qb ?_
 refine lK_ ((QhL z (by first | exact (Ko ‹_› ‹_› ‹_›).2 ‹_› | exact Qe6 ‹_› ‹_› ‹_› ‹_› ‹_›))) ?_
 exact wo []
 have o:¬(i=m):=QE f
 refine w4 ?_
 refine Qd<|fqB u ?_
 exact Qjv (k:=k) (by omega) (fun h=>by first | exact absurd ((Ko ‹_› ‹_› ‹_›).1 h) ‹_› | exact Qbi ‹_› ‹_› ‹_› h | exact QaX ‹_› ‹_› ‹_› h)
theorem VX (code:ByteArray)(sig:Int)(b:ByteArray)(q:0≤sig∧sig < (code.size:Int))(hb:code.size≤1000000∧b.size≤1000000):FC Tryz.prog 351 [(false,[dS code]),(false,[dI sig]),(false,[dS b])] [] 0 (QX (lf (dS (Hl code sig b)))):=by
 refine Qp Tryz.func351 rfl rfl Tryz.ntmps351 fun o j m f p i g=> ?_
 refine acI 1 fun _=> ?_
 refine w3 ?_
 apply dW (i2 7 _ _ (io 9 (lf (dS (code.extract 0 (sig).toNat))) :: io 10 _ :: io 11 (lf (dS ((code.extract 0 (sig).toNat)++b))) :: i3 12 _ _ _ [io 15 (lf (dS (code.extract (sig+1).toNat code.size))),io 16 (lf (dS (((code.extract 0 (sig).toNat)++b)++(code.extract (sig+1).toNat code.size)))),io 6 _])) [0,1,0,7,0,31,63,63,31,0,0]
 refine z2 ?_
 refine zz (fun _ e=>ac (show Does _ _ _ _ (St.put _ 9 (lf (dS (code.extract 0 (sig).toNat)))) from Zj (l:=none) (h:=(some sig)) (e.v rfl) (by exact trivial) (by exact (e.v rfl)) Zz rfl (by first | omega | (simp only[ao,ak]; omega)) (by first | omega | (simp only[ao,ak]; omega)) (by first | omega | (simp only[ao,ak]; omega))) rfl) ?_
 refine z_ ?_
 refine zz (fun _ e=>ac (QA (e.v rfl) (e.v rfl) rfl (by first | omega | (simp only[aA,aZ]; omega))) rfl) ?_
 refine z3 ?_
 refine zz (fun _ e=>ac (show Does _ _ _ _ (St.put _ 15 (lf (dS (code.extract (sig+1).toNat code.size)))) from Zj (l:=(some (sig+1))) (h:=none) (e.v rfl) (by exact (e.v rfl)) (by exact trivial) Zz rfl (by first | omega | (simp only[ao,ak]; omega)) (by first | omega | (simp only[ao,ak]; omega)) (by first | omega | (simp only[ao,ak]; omega))) rfl)<|zz (fun _ e=>ac (QA (e.v rfl) (e.v rfl) rfl (by first | omega | (simp only[aA,aZ]; omega))) rfl) ?_
 exact y1
 refine Qd<|fqS j ?_
 rfl
end Go.Proofs.YtndabgcpnmeeoaaGreat
namespace Go.Proofs.YtndabgcpnmeeoaaGreat
open Go.RowKit
set_option maxRecDepth 100000
set_option maxHeartbeats 4000000
def Y6 (c:DSg)(i:Int):ByteArray:=(c.2.1[i.toNat]?).getD ByteArray.empty
def Xx (c:DSg)(a:DAr):Prop:=(0≤a.1∧a.1≤(c.2.1.length:Int) - 1)∧(0≤a.2.2.2∧a.2.2.2≤(c.2.1.length:Int) - 1)∧UM (c.1.length:Int) (a.2.1,a.2.2.1)∧Fit a (Y6 c a.1) (Y6 c a.2.2.2)
instance (c:DSg) (a:DAr):Decidable (Xx c a):=inferInstanceAs (Decidable (_∧_))
section
variable {c:DSg}{a:DAr}{x y b code:ByteArray}{n sig p:Int}{j k m:Nat}
theorem YW (h:c.2.1[p.toNat]? =some x):Y6 c p=x:=by unfold Y6; rw[h]; rfl
theorem Ut (m:ByteArray)(p:Int):bAt m p=(m.toList[p.toNat]?).getD 0:=by
 unfold bAt
 rw[bp]
 by_cases h:p.toNat < m.size
 ·rw[dC m p.toNat h,aj (by simpa using h)]
  rfl
 ·rw[getElem?_neg m p.toNat h,bH (by simpa using h)]
theorem Qgf (g:x.size=y.size)(h:∀j:Nat,j < x.size→bAt x (j:Int)=bAt y (j:Int)):x=y:=by
 have e:x.toList=y.toList:=bK fun j=>by
  by_cases d:j < x.size
  ·have h1:=h j d
   rw[Ut,Ut] at h1
   have h2:j < x.toList.length:=by rw[We]; exact d
   have h3:j < y.toList.length:=by rw[We,← g]; exact d
   have f:((j:Int)).toNat=j:=rfl
   rw[f,aj h2,aj h3] at h1
   rw[aj h2,aj h3]
   exact congrArg some h1
  ·rw[bH (by rw[We]; omega),bH (by rw[We]; omega)]
 rw[bp,bp] at e
 exact ByteArray.ext (Array.toList_inj.1 e)
theorem QeQ (code:ByteArray)(sig:Int)(b:ByteArray):(Hl code sig b).toList=code.toList.take sig.toNat++(b.toList++code.toList.drop (sig+1).toNat):=by
 have h:code.data.size=code.size:=rfl
 simp only[Hl,bp,ByteArray.data_append,ByteArray.data_extract,Array.toList_append,Array.toList_extract,aU]
 simp[h,List.extract_eq_take_drop]
 rw[aR (by simp[h])]
theorem Qfo (h0:0≤sig)(h1:sig < code.size)(hb:b.size=1):(Hl code sig b).size=code.size:=by
 rw[← We,QeQ]
 simp only[ai,ap,bG,We,hb]
 omega
theorem Qmm (h0:0≤sig)(h1:sig < code.size)(hb:b.size=1)(g:j < code.size):bAt (Hl code sig b) (j:Int)=if (j:Int)=sig then bAt b 0 else bAt code (j:Int):=by
 rw[Ut,QeQ,Ut,Ut]
 have i:=We code
 have f:=We b
 have d:((j:Int)).toNat=j:=rfl
 rw[d]
 by_cases e:(j:Int)=sig
 ·rw[if_pos e,br (by rw[ap]; omega),bo (by rw[ap]; omega)]
  rw[show j - (code.toList.take sig.toNat).length=((0:Int)).toNat by rw[ap]; show _=0; omega]
 ·rw[if_neg e]
  by_cases h:(j:Int) < sig
  ·rw[bo (by rw[ap]; omega),bm,if_pos (by omega)]
  ·rw[br (by rw[ap]; omega),br (by rw[ap]; omega),cP]
   congr 2
   rw[ap]
   omega
theorem Qcj (h:YM x n)(e:j < x.size):bAt x (j:Int)=48∨bAt x (j:Int)=49:=by
 have h2:j < x.toList.length:=by rw[We]; exact e
 rw[Ut]
 have d:((j:Int)).toNat=j:=rfl
 rw[d,aj h2]
 exact h.1 _ (cM h2)
theorem Qga (b:Bool):bAt (YO b) 0=if b=true then 49 else 48:=by cases b <;> rfl
theorem Wf (b:Bool):(YO b).size=1:=rfl
theorem Qcl {c:UInt8}{b:Bool}(h:c=48∨c=49):decide (c=49)=b↔c=if b=true then 49 else 48:=by
 rcases h with rfl | rfl <;> cases b <;> decide
theorem Qrr (hx:YM x n)(hy:YM y n)(f:a.2.1 < 0):Fit a x y↔x=y:=by
 have d:x.size=y.size:=by have:=hx.2; have:=hy.2; omega
 constructor
 ·intro h
  refine Qgf d fun j e=> ?_
  have:=h j e
  unfold Y8 at this
  rwa [if_neg (by omega)] at this
 ·rintro rfl j e
  unfold Y8
  rw[if_neg (by omega)]
theorem Qms (hx:YM x n)(hy:YM y n)(s:¬a.2.1 < 0)(r:a.2.1 < n):Fit a x y↔x=Hl y a.2.1 (YO (!a.2.2.1))∧y=Hl x a.2.1 (YO a.2.2.1):=by
 have o:=hx.2
 have q:=hy.2
 have t:=Qfo (code:=y) (sig:=a.2.1) (b:=YO (!a.2.2.1)) (by omega) (by omega) (Wf _)
 have z2:=Qfo (code:=x) (sig:=a.2.1) (b:=YO a.2.2.1) (by omega) (by omega) (Wf _)
 have f:=fun (j:Nat) d=>Qmm (j:=j) (code:=y) (sig:=a.2.1) (b:=YO (!a.2.2.1)) (by omega) (by omega) (Wf _) d
 have g:=fun (j:Nat) d=>Qmm (j:=j) (code:=x) (sig:=a.2.1) (b:=YO a.2.2.1) (by omega) (by omega) (Wf _) d
 constructor
 ·intro h
  constructor
  ·refine Qgf (by omega) fun j d=> ?_
   rw[f j (by omega),Qga]
   have h1:=h j d
   unfold Y8 at h1
   split
   ·rename_i e
    rw[if_pos e] at h1
    exact (Qcl (Qcj hx d)).1 h1.1
   ·rename_i e
    rwa [if_neg e] at h1
  ·refine Qgf (by omega) fun j d=> ?_
   rw[g j (by omega),Qga]
   have h1:=h j (by omega)
   unfold Y8 at h1
   split
   ·rename_i e
    rw[if_pos e] at h1
    exact (Qcl (Qcj hy d)).1 h1.2
   ·rename_i e
    rw[if_neg e] at h1
    exact h1.symm
 ·rintro ⟨i,l⟩ j d
  have h1:=f j (by omega)
  have h2:=g j d
  rw[← i,Qga] at h1
  rw[← l,Qga] at h2
  unfold Y8
  split
  ·rename_i e
   rw[if_pos e] at h1 h2
   exact ⟨(Qcl (Qcj hx d)).2 h1,(Qcl (Qcj hy (by omega))).2 h2⟩
  ·rename_i e
   rwa [if_neg e] at h1
theorem QsH (h:¬(0≤a.1∧a.1≤(c.2.1.length:Int) - 1)):false=decide (Xx c a):=(aB fun g=>h g.1).symm
theorem QsG (h:¬(0≤a.2.2.2∧a.2.2.2≤(c.2.1.length:Int) - 1)):false=decide (Xx c a):=(aB fun g=>h g.2.1).symm
theorem QsN (h:¬UM (c.1.length:Int) (a.2.1,a.2.2.1)):false=decide (Xx c a):=(aB fun g=>h g.2.2.1).symm
theorem QjA (h3:UM (c.1.length:Int) (a.2.1,a.2.2.1))(d:¬a.2.1 < 0):a.2.1 < (c.1.length:Int):=by
 rcases h3 with h | h
 ·have h:0≤a.2.1∧a.2.1≤(c.1.length:Int) - 1:=h; omega
 ·have h:a.2.1= -1:=h.1; omega
section
variable (h1:0≤a.1∧a.1≤(c.2.1.length:Int) - 1)(h2:0≤a.2.2.2∧a.2.2.2≤(c.2.1.length:Int) - 1)(h3:UM (c.1.length:Int) (a.2.1,a.2.2.1))(hx:c.2.1[a.1.toNat]? =some x)(hy:c.2.1[a.2.2.2.toNat]? =some y)
include h1 h2 h3 hx hy
theorem Qg1:Xx c a↔Fit a x y:=by
 unfold Xx
 rw[YW hx,YW hy]
 exact ⟨fun g=>g.2.2.2,fun g=>⟨h1,h2,h3,g⟩⟩
theorem Qr2 (hb:∀x∈c.2.1,YM x (c.1.length:Int))(d:a.2.1 < 0):decide (x=y)=decide (Xx c a):=bX.2 (by rw[Qg1 h1 h2 h3 hx hy,Qrr (hb x (ae hx)) (hb y (ae hy)) d])
theorem Qqn (hb:∀x∈c.2.1,YM x (c.1.length:Int))(d:¬a.2.1 < 0)(h:¬x=Hl y a.2.1 (YO (!a.2.2.1))):false=decide (Xx c a):=(aB fun g=>by
 rw[Qg1 h1 h2 h3 hx hy,Qms (hb x (ae hx)) (hb y (ae hy)) d (QjA h3 d)] at g
 exact h g.1).symm
theorem Qqf (hb:∀x∈c.2.1,YM x (c.1.length:Int))(d:¬a.2.1 < 0)(h:x=Hl y a.2.1 (YO (!a.2.2.1))):decide (y=Hl x a.2.1 (YO a.2.2.1))=decide (Xx c a):=bX.2 (by
 rw[Qg1 h1 h2 h3 hx hy,Qms (hb x (ae hx)) (hb y (ae hy)) d (QjA h3 d)]
 exact ⟨fun g=>⟨h,g⟩,fun g=>g.2⟩)
end
end
theorem QeF (c:ZX)(a:QnF)(f:∀x∈c.2.1,YM x (c.1.length:Int))(F:c.1.length≤1000):FC Tryz.prog 217 [(true,[.dat Ql c.1, .dat Qj c.2.1, .dat Qv c.2.2]),(true,[dI a.1,dI a.2.1,dB a.2.2.1,dI a.2.2.2])] [] 0 (QX (lB (decide (Xx c a)))):=by
 refine Qp Tryz.func217 rfl rfl Tryz.ntmps217 fun I l H C J E D=> ?_
 refine acG 1 0 fun _=> ?_
 refine acG 1 1 fun _=> ?_
 refine acG 1 3 fun _=> ?_
 refine w_ ?_
 refine xbx 0 ?_
 refine xbx 1 ?_
 refine w8 ?_
 refine alL 10 fun _=> ?_
 refine w2 ?_
 refine lc (dK (Yw a.1 0 ((c.2.1.length:Int) - 1)) Xd) ?_
 refine w2 ?_
 cases o:(decide (0≤a.1∧a.1≤((c.2.1.length:Int) - 1)))
 have q:=aa o
 refine w16 ?_
 refine w10 ?_
 refine Qd<|fqB l ?_
 exact QsH ‹_›
 have q:=ab o
 refine w4 ?_
 refine alL 19 fun _=> ?_
 refine w2 ?_
 refine lgy rfl rfl (dK (Yw a.2.2.2 0 ((c.2.1.length:Int) - 1)) Xd) ?_
 refine w3 ?_
 cases r:(decide (0≤a.2.2.2∧a.2.2.2≤((c.2.1.length:Int) - 1)))
 have s:=aa r
 refine w16 ?_
 refine Qd<|fqB l ?_
 exact QsG ‹_›
 have s:=ab r
 refine w4 ?_
 refine lgy rfl rfl (Qq XJ ⟨_,_,rfl,(Qo rfl),⟨_,_,rfl,(Qo rfl),rfl⟩⟩ (av.1 rfl) rfl rfl) ?_
 refine w2 ?_
 refine alL 32 fun _=> ?_
 refine w_ ?_
 refine lgy rfl rfl (dK (QbR (a.2.1,a.2.2.1) (c.1.length:Int) (by omega)) QiY) ?_
 refine w3 ?_
 cases t:(decide (UM (c.1.length:Int) (a.2.1,a.2.2.1)))
 have u:=aa t
 refine w4 ?_
 refine Qd<|fqB l ?_
 exact QsN ‹_›
 have u:=ab t
 refine w2 ?_
 obtain ⟨i,w⟩:=gx c.2.1 ((a.1).toNat)
 have A:=(f _ (ae w)).2
 obtain ⟨g,z⟩:=gx c.2.1 ((a.2.2.2).toNat)
 have B:=(f _ (ae z)).2
 apply dW (i9 37 _ _ _ _ _ _ _ _ _ (i3 46 _ _ _ (i2 5 _ _ []))) [0,0,3,3,0,0,63,63,255,255,63,63,4032,0]
 exact y14
 refine w6 ?_
 refine cd_ (fun _ _=> ?_) fun _ _=> ?_
 refine w_ ?_
 have G:=QjA (c:=c) (a:=a) ‹_› ‹_›
 cases d:(decide (i=(Hl g a.2.1 (YO (!a.2.2.1)))))
 have h:=aa d
 apply dW (i7 55 _ _ _ _ _ _ _ (io 62 (lf (dS (YO (!a.2.2.1)))) :: io 63 (lf (dS (Hl g a.2.1 (YO (!a.2.2.1))))) :: io 64 (lB false) :: i9 65 _ _ _ _ _ _ _ _ _ (i2 74 _ _ [io 4 _]))) [0,1,3,3,15,15,15,15,1,0,0,0,2048,6144,6144,30720,30720,30720,2048,0,0,0]
 refine z7 ?_
 refine zz (fun _ e=>ac (dK (Y2 (!a.2.2.1)) Wp) rfl) ?_
 refine zz (fun _ e=>ac (dK (VX g a.2.1 (YO (!a.2.2.1)) (by omega) ⟨by omega,by rw[Wf]; decide⟩) HE) rfl) ?_
 refine zz (fun _ e=>ac (QS (d) (Jv (e.v rfl) (e.v rfl) rfl)) rfl) ?_
 exact y12
 refine Qd<|fqB l ?_
 exact Qqn ‹_› ‹_› ‹_› (x:=i) (y:=g) ‹_› ‹_› f ‹_› ‹_›
 have h:=ab d
 apply dW (i7 55 _ _ _ _ _ _ _ (io 62 (lf (dS (YO (!a.2.2.1)))) :: io 63 (lf (dS (Hl g a.2.1 (YO (!a.2.2.1))))) :: io 64 (lB true) :: i7 65 _ _ _ _ _ _ _ (io 72 (lf (dS (YO a.2.2.1))) :: io 73 (lf (dS (Hl i a.2.1 (YO a.2.2.1)))) :: i2 74 _ _ [io 4 _]))) [0,1,3,3,15,15,15,15,1,0,0,0,2048,6144,6144,30720,30720,30720,2048,0,0,0]
 refine z7 ?_
 refine zz (fun _ e=>ac (dK (Y2 (!a.2.2.1)) Wp) rfl) ?_
 refine zz (fun _ e=>ac (dK (VX g a.2.1 (YO (!a.2.2.1)) (by omega) ⟨by omega,by rw[Wf]; decide⟩) HE) rfl) ?_
 refine zz (fun _ e=>ac (QS (d) (Jv (e.v rfl) (e.v rfl) rfl)) rfl) ?_
 refine z7 ?_
 refine zz (fun _ e=>day rfl (e.k rfl) (dK (Y2 a.2.2.1) Wp) rfl) ?_
 refine zz (fun _ e=>day rfl (e.k rfl) (dK (VX i a.2.1 (YO a.2.2.1) (by omega) ⟨by omega,by rw[Wf]; decide⟩) HE) rfl) ?_
 exact y3
 refine Qd<|fqB l ?_
 exact Qqf ‹_› ‹_› ‹_› (x:=i) (y:=g) ‹_› ‹_› f ‹_› ‹_›
 refine w6 ?_
 refine Qd<|fqB l ?_
 exact Qr2 ‹_› ‹_› ‹_› (x:=i) (y:=g) ‹_› ‹_› f ‹_›
end Go.Proofs.YtndabgcpnmeeoaaGreat
