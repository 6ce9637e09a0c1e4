/- Walks over abstract states: the state graph, both sides. -/
import Derived.Test.YtjfpbcmfbnnooaaGreatGWp
set_option linter.unusedSimpArgs false
set_option linter.unusedVariables false
set_option linter.unusedSectionVars false
namespace Go.Proofs.YtjfpbcmfbnnooaaGreat
open Go.RowKit
set_option maxRecDepth 100000
set_option maxHeartbeats 4000000
def UI:Nat→List ByteArray→List UInt8→List ByteArray
 | _,c,[]=>c
 | i,c,v::vs=>UI (i+1) (c.set i ((c[i]?).getD ByteArray.empty++⟨#[v]⟩)) vs
def goS (n:Nat)(arcs:List DAr):Nat→Nat→List ByteArray→Option (List ByteArray)
 | 0,_,c=>some c
 | f+1,k,c=>if (Ui n arcs (k:Int)).2=true then goS n arcs f (k+1) (UI 0 c (Ui n arcs (k:Int)).1) else none
section
variable {n f k i m:Nat}{arcs:List DAr}{c codes:List ByteArray}{vs us:List UInt8}{v:UInt8}{x:ByteArray}
theorem QgL (hv:vs[i]? =some v)(a:c[i]? =some x):UI i c (vs.drop i)=UI (i+1) (c.set i (x++⟨#[v]⟩)) (vs.drop (i+1)):=by
 rw[Yr hv,UI,a]
 rfl
theorem QqR (h:vs.length≤i):UI i c (vs.drop i)=c:=by rw[bR h,UI]
theorem Qjt:∀(i:Nat) (c:List ByteArray) (vs:List UInt8),(UI i c vs).length=c.length
 | _,_,[]=>by rw[UI]
 | i,c,v::vs=>by rw[UI,Qjt];simp
theorem Qw7 (a:k<m)(h:(Ui n arcs (k:Int)).2=true):goS n arcs (m - k) k c=goS n arcs (m - (k+1)) (k+1) (UI 0 c (Ui n arcs (k:Int)).1):=by
 rw[show m - k=(m - (k+1))+1 by omega,goS,if_pos h]
theorem QdT (a:m≤k):goS n arcs (m - k) k c=some c:=by rw[show m - k=0 by omega,goS]
theorem Qr0 {j:Nat}(h:(Ui n arcs (j:Int)).2=false)(d:k≤j)(b:j<k+f):goS n arcs f k c=none:=by
 induction f generalizing k c with
 | zero=>omega
 | succ f a=>
  rw[goS]
  by_cases e:j=k
  ·subst e;rw[if_neg (by rw[h];decide)]
  ·split
   ·exact a (by omega) (by omega)
   ·rfl
theorem Qm6 (e:∀a∈arcs,InR n a)(sig:Int):(Ui n arcs sig).2=(l5V n arcs sig).2:=by
 rcases QfK (sig:=sig) e with ⟨b,d,_⟩|⟨us,b,_,d⟩
 ·rw[b,d]
 ·rw[b,d]
theorem QkW (h:¬0<((Wq n arcs m).length:Int))(d:k<m):(l5V n arcs (k:Int)).2=true:=by
 induction m with
 | zero=>omega
 | succ m b=>
  simp only[Wq,ah] at h
  by_cases e:k=m
  ·subst e
   cases a:(l5V n arcs (k:Int)).2 with
   | true=>rfl
   | false=>rw[a] at h;simp at h
  ·exact b (by omega) (by omega)
theorem KH (e:∀a∈arcs,InR n a)(h:0<((Wq n arcs m).length:Int)):goS n arcs m 0 c=none:=by
 have:∃j,j<m∧(l5V n arcs (j:Int)).2=false:=by
  induction m with
  | zero=>simp[Wq] at h
  | succ m g=>
   simp only[Wq,ah] at h
   cases b:(l5V n arcs (m:Int)).2 with
   | false=>exact ⟨m,by omega,b⟩
   | true=>
    rw[b] at h
    obtain ⟨j,o,d⟩:=g (by simpa using h)
    exact ⟨j,by omega,d⟩
 obtain ⟨j,l,b⟩:=this
 exact Qr0 ((Qm6 e _).trans b) (aL _) (by omega)
theorem Qty (e:∀a∈arcs,InR n a)(sig:Int):(Ui n arcs sig).1.length≤n:=by
 rcases QfK (sig:=sig) e with ⟨_,_,_,b⟩|⟨us,_,d,b⟩
 ·rw[b];exact aL _
 ·rw[b,aH,d];exact aO _
theorem Qks {b:Nat}{y:ByteArray}(h:∀z∈c,z.size≤b)(d:c[i]? =some x)(g:y.size≤x.size+1):∀z∈c.set i y,z.size≤b+1:=fun z e=>by
 rcases ck e with a|a
 ·exact dd (h z a)
 ·rw[a];have:=h x (ae d);omega
theorem VJ {ls:List ZZ}{b:List DMv}{q:Nat}(h:∀v∈b,MvOk n q v):∀a∈QQ ls b,InR n a:=fun a g=>by
 obtain ⟨v,j,rfl⟩:=bd.1 g
 obtain ⟨d,_,e⟩:=h v j
 exact ⟨d,e⟩
theorem Qxh {sig:Int}(g:∀a∈arcs,InR n a)(h:(l5V n arcs sig).2=true):∃us:List UInt8,(l5V n arcs sig).1=⟨us.toArray⟩∧us.length=n∧(l5V n arcs sig).1.size=n∧Ui n arcs sig=(us.map q0,true):=by
 rcases QfK (sig:=sig) g with ⟨b,_⟩|⟨us,b,d,e⟩
 ·rw[b] at h;cases h
 ·exact ⟨us,by rw[b],d,by rw[b,← d];rfl,e⟩
theorem QdQ (b:ByteArray)(i:Nat):(b.extract i (i+1)).size≤1:=by simp only[aT];omega
theorem QyW (d:us[i]? =some v):(⟨us.toArray⟩:ByteArray).extract i (i+1)=⟨#[v]⟩:=by
 apply ByteArray.ext
 simp only[ByteArray.data_extract]
 obtain ⟨e,a⟩:=ai.1 d
 apply Array.ext
 ·simp;omega
 ·intro j g b
  have:j=0:=by simp at b;omega
  subst this
  simp[a]
theorem Qwn (a:us[i]? =some v):(us.map q0)[i]? =some (q0 v):=by rw[bn,a];rfl
theorem QqU {b:ByteArray}(hb:b=⟨us.toArray⟩)(hi:i<us.length)(g:decide (b.extract i (i+1)=⟨#[63]⟩)=true)(h:c[i]? =some x):UI i c ((us.map q0).drop i)=UI (i+1) (c.set i (x++⟨#[48]⟩)) ((us.map q0).drop (i+1)):=by
 have d:=ao hi
 have a:=ab g
 rw[hb,QyW d] at a
 have e:us[i]=63:=by
  have:=congrArg (fun b:ByteArray=>b.data[0]?) a
  simpa using this
 have:=QgL (Qwn d) h
 rwa [show q0 us[i]=48 by rw[e];rfl] at this
theorem QqT {b:ByteArray}(hb:b=⟨us.toArray⟩)(hi:i<us.length)(g:decide (b.extract i (i+1)=⟨#[63]⟩)=false)(h:c[i]? =some x):UI i c ((us.map q0).drop i)=UI (i+1) (c.set i (x++b.extract i (i+1))) ((us.map q0).drop (i+1)):=by
 have d:=ao hi
 have a:=aa g
 rw[hb,QyW d] at a ⊢
 have:=QgL (Qwn d) h
 rwa [show q0 us[i]=us[i] by unfold q0;rw[if_neg];intro e;exact a (by rw[e])] at this
theorem QqS (h:us.length≤i):UI i c ((us.map q0).drop i)=c:=QqR (by simpa using h)
end
section
variable [∀s,Decidable (StgOk s)]{s:ZG}{c:List ByteArray}
def QcI:List (ByteArray×Int)×List ByteArray×List DAr:=([],[],[])
def sgV (s:ZG):(List (ByteArray×Int)×List ByteArray×List DAr)×Bool:=
 if (Qo s).2=true∧¬4000<(Qo s).1.2.length then
  (match goS (Qo s).1.1.length (QQ s.2.2.1 (Qo s).1.2) s.2.1.length 0 (List.replicate (Qo s).1.1.length ByteArray.empty) with
  | some c=>((s.2.1,c,QQ s.2.2.1 (Qo s).1.2),true)
  | none=>(QcI,false))
 else (QcI,false)
theorem Qd5 (h:(Qo s).2=false):sgV s=(QcI,false):=if_neg fun a=>by rw[h] at a;cases a.1
theorem Qd6 (h:(4000:Int)<((Qo s).1.2.length:Int)):sgV s=(QcI,false):=if_neg fun a=>a.2 (by omega)
theorem Qd7 (h:goS (Qo s).1.1.length (QQ s.2.2.1 (Qo s).1.2) s.2.1.length 0 (List.replicate (Qo s).1.1.length ByteArray.empty)=none):sgV s=(QcI,false):=by
 unfold sgV
 rw[h]
 split <;> rfl
theorem QbP (a:(Qo s).2=true)(b:¬(4000:Int)<((Qo s).1.2.length:Int))(h:goS (Qo s).1.1.length (QQ s.2.2.1 (Qo s).1.2) s.2.1.length 0 (List.replicate (Qo s).1.1.length ByteArray.empty)=some c):
 sgV s=((s.2.1,c,QQ s.2.2.1 (Qo s).1.2),true):=by
 unfold sgV
 rw[if_pos ⟨a,by omega⟩,h]
end
theorem Zm (s:Qk1)[∀s,Decidable (StgOk s)]:FC Tryz.prog 117 [(true,[dI s.1.1,.dat XZ s.1.2,.dat Ql s.2.1,.dat XQ s.2.2.1,dS s.2.2.2])] [] 0 (Is (PV.tup [(true,[.ref 0,.ref 1,.ref 2]),(false,[dB ((sgV s).2)])]) [ar 0 103 QI (((sgV s).1).1),ar 1 9 .str (((sgV s).1).2.1),ar 2 139 Yq (((sgV s).1).2.2)]):=by
 refine Qj Tryz.func117 rfl rfl Tryz.ntmps117 fun O_ T b9 a5 X_ a7 a6=> ?_
 refine acG 0 0 fun _=> ?_
 refine w_ ?_
 refine xbx 0 ?_
 refine lc (xal 1 Hd Y3) ?_
 refine w4 ?_
 refine lc (dG 2 (Qdc s) Qlt) ?_
 refine w3 ?_
 refine lc (xal 4 QAe Qi2) ?_
 refine w8 ?_
 cases b2:((Qo s).2)
 refine w15 ?_
 refine lc (Qk Qev rfl (au.1 rfl) rfl rfl) ?_
 refine w3 ?_
 refine AC.wk (Qr 5 (p:=1) (off:=0) 103 QI rfl rfl (Fresh.of rfl) (nlr rfl))<|AC.wk (Qr 6 (p:=1) (off:=1) 9 .str rfl rfl (Fresh.of rfl) (nlr rfl))<|AC.wk (Qr 7 (p:=1) (off:=2) 139 Yq rfl rfl (Fresh.of rfl) (nlr rfl))<|Qe ?_
 have e3:(false:Bool)=((sgV s).2):=by
  (rw[Qd5 ‹_›];done)
 exact fi_ [(0,5),(1,6),(2,7)] T ⟨(Qm (by (rw[Qd5 ‹_›];rfl))),(Qm (by (rw[Qd5 ‹_›];rfl))),(Qm (by (rw[Qd5 ‹_›];rfl))),trivial⟩ (h0:=by rw[← e3] <;> rfl)
 refine w2 ?_
 refine lgy rfl rfl (QcK 8 (Qdl s ((Qo s).1) (Yp (s:=s) ‹_›).2.2.2.2.1 (by have:=(Yp (s:=s) ‹_›).2.2.1;omega) (by have:=Qkr (Yp (s:=s) ‹_›).1.sigs;omega)) Qlu ⟨_,_,rfl,(Ev.b (Qn rfl)),⟨_,_,rfl,(QgG (Qn rfl) ⟨_,_,rfl,.inr ⟨_,_,_,_,rfl,rfl,rfl⟩,⟨_,_,rfl,.inr ⟨_,_,_,_,rfl,rfl,rfl⟩,rfl⟩⟩),rfl⟩⟩ rfl (Fresh.of rfl) (nlr rfl)) ?_
 refine w4 ?_
 cases I:(decide (0<((Wq ((Qo s).1).1.length (QQ s.2.2.1 ((Qo s).1).2) s.2.1.length).length:Int)))
 have J:=aa I
 refine w6 ?_
 refine cd_ (fun _ _=> ?_) fun _ _=> ?_
 refine w_ ?_
 obtain ⟨a2,a9,b0,b1,D,a8⟩:=Yp (s:=s) ‹_›
 have a0:=VJ (ls:=s.2.2.1) D
 have b6:=Qkr a2.sigs
 apply dW [⟨some 36,lR 9,[ar 9 103 QI ([])]⟩,io 37 (lP 0 2),io 38 (lf (.dat Ql s.2.1)),⟨some 39,lR 10,[ar 10 103 QI (([])++s.2.1),(9,none)]⟩,io 40 (lP 4 0),io 41 (lR 2),io 42 (lI ((((Qo s).1).1).length:Int)),⟨some 43,lR 11,[ar 11 9 .str (List.replicate ((((Qo s).1).1).length) (Ty.zero .str))]⟩,io 44 (ag [.ref 10,.ref 11,.val (.slice none 0 0)]),⟨some 6,lP 12 0,[bx 12 28 [.val (.slice none 0 0),.val (.slice none 0 0),.val (.slice none 0 0)]]⟩,⟨none,lf (.val undef),[bx 12 28 [.ref 10,.ref 11,.val (.slice none 0 0)]]⟩] [0,1,1,0,15,15,15,15,0,511,0]
 refine zz (fun _ d=>ac (dBs 9 (e:=QI) WO) rfl) ?_
 refine z2 ?_
 refine zz (fun _ d=>ac (Zi 10 (d.v rfl) (d.en 9 rfl) (Evl.rep (d.v rfl)) rfl QcH Hp (by first|omega|(simp only[ah,aH,ap,av,aC];omega)|(simp only[ah,aX,ap,av,aC];omega)) rfl (d.fr 10 rfl) (nlr rfl)) rfl) ?_
 refine z3 ?_
 refine zz (fun _ d=>ac (Vy 11 (e:= .str) (n:=(((Qo s).1).1).length) (d.v rfl) (d.v rfl) Zz Qzu rfl (by omega) (by omega) rfl (d.fr 11 rfl) (nlr rfl)) rfl)<|zz (fun _ d=>ac (Qk Qev ⟨_,_,rfl,(d.w rfl),⟨_,_,rfl,(d.w rfl),rfl⟩⟩ (au.1 (by simp only[Zj,Kq,bt,bW];rw[(d.en 10 rfl),(d.en 11 rfl)];rfl)) rfl rfl) rfl)<|zz (fun _ d=>ac (XW 12 Hd Y3 rfl rfl (d.fr 12 rfl) (nlr rfl)) rfl)<|zz (fun _ d=>ac (ZA (d.v rfl) (d.en 12 rfl) (d.w rfl) (by simp only[Zj,Kq,bt,bW];rw[(d.en 10 rfl),(d.en 11 rfl)];rfl) XJ rfl) rfl) ?_
 exact zN
 refine w4 ?_
 refine alL 46 fun _=> ?_
 refine w4 ?_
 refine Qu (fun O Q=>∃(k:Nat) (codes:List ByteArray),k≤s.2.1.length∧O=s.2.1.length - k∧(goS (Qo s).1.1.length (QQ s.2.2.1 (Qo s).1.2) s.2.1.length 0 (List.replicate (Qo s).1.1.length ByteArray.empty)=goS (Qo s).1.1.length (QQ s.2.2.1 (Qo s).1.2) (s.2.1.length - k) k codes)∧(codes.length=(Qo s).1.1.length)∧(∀c∈codes,c.size≤300*k)∧Q=⟨[(1,lP 0 0),(2,lP 1 0),(3,lB false),(4,lP 4 0),(6,lP 12 0),(47,lI (s.2.1.length:Int)),(48,lI (k:Int))],[bx 0 164 [dI s.1.1,.dat XZ s.1.2,.dat Ql s.2.1,.dat XQ s.2.2.1,dS s.2.2.2],bx 1 28 [.val (.slice none 0 0),.val (.slice none 0 0),.val (.slice none 0 0)],ar 2 9 .str (((Qo s).1).1),ar 3 229 Z5 (((Qo s).1).2),bx 4 227 [.ref 2,.ref 3],ar 10 103 QI (([])++s.2.1),bx 12 28 [.ref 10,.ref 13,.val (.slice none 0 0)],ar 13 9 .str codes]⟩) ⟨0,List.replicate ((((Qo s).1).1).length) (Ty.zero .str),aL _,rfl,rfl,(by simp),(fun c Z=>by rw[cQ Z];exact aL _),rfl⟩ ?_ ?_
 exact wp [(13,11)] ⟨rfl,rfl,rfl,rfl,rfl,rfl,rfl,(Qm (by first|rfl|simp)),trivial⟩
 rintro O Q ⟨k,codes,b3,b4,H,hL,hZ,rfl⟩
 refine w4 ?_
 cases K:(decide ((k:Int)<(s.2.1.length:Int)))
 have L:=aa K
 refine w11 ?_
 refine AC.wk (Qr 14 (p:=12) (off:=2) 139 Yq rfl rfl (Fresh.of rfl) (nlr rfl)) ?_
 refine lp0 ((((Qo s).1).2).length) (fun j=>⟨[(1,lP 0 0),(2,lP 1 0),(3,lB false),(6,lP 12 0),(82,lR 3),(83,lI ((((Qo s).1).2).length:Int)),(84,lI (j:Int))],[bx 0 164 [dI s.1.1,.dat XZ s.1.2,.dat Ql s.2.1,.dat XQ s.2.2.1,dS s.2.2.2],bx 1 28 [.val (.slice none 0 0),.val (.slice none 0 0),.val (.slice none 0 0)],ar 3 229 Z5 (((Qo s).1).2),ar 10 103 QI (([])++s.2.1),bx 12 28 [.ref 10,.ref 13,.ref 15],ar 13 9 .str codes,ar 15 139 Yq ((((Qo s).1).2.take j).map (Qnc s.2.2.1))]⟩) ?_ fun j _=> ?_
 exact wp [(15,14)] ⟨rfl,rfl,rfl,rfl,rfl,rfl,(Qm (by first|rfl|simp)),trivial⟩
 refine w4 ?_
 cases y:(decide ((j:Int)<((((Qo s).1).2).length:Int)))
 have E:=aa y
 refine w9 ?_
 have W:(true:Bool)=((sgV s).2):=by
  (rw[QbP ‹_› ‹_› (H.trans (QdT (by omega)))];done)
 exact fi_ [(0,10),(1,13),(2,15)] T ⟨(Qm (by (rw[QbP ‹_› ‹_› (H.trans (QdT (by omega)))];rfl))),(Qm (by (rw[QbP ‹_› ‹_› (H.trans (QdT (by omega)))];done))),(Qm (by (rw[QbP ‹_› ‹_› (H.trans (QdT (by omega))),ZD (by omega)];rfl))),trivial⟩ (h0:=by rw[← W] <;> rfl)
 have E:=ab y
 refine w6 ?_
 obtain ⟨P,B⟩:=gx (((Qo s).1).2) j
 have b5:=(D _ (ae B)).2.1
 refine w_ ?_
 refine lc (xal 16 Z5 K5) ?_
 refine w7 ?_
 refine alI 91 fun _=> ?_
 obtain ⟨t,N⟩:=gx s.2.2.1 ((P.2.1).toNat)
 have a1:=Qiw N
 refine w2 ?_
 refine lc (xal 17 ZY WP) ?_
 refine w7 ?_
 refine alI 97 fun _=> ?_
 refine w2 ?_
 refine alI 99 fun _=> ?_
 refine w4 ?_
 refine alI 103 fun _=> ?_
 refine lc (Qk Qt3 ⟨_,_,rfl,(Qn rfl),⟨_,_,rfl,(Qn rfl),⟨_,_,rfl,(Qn rfl),⟨_,_,rfl,(Qn rfl),rfl⟩⟩⟩⟩ (au.1 rfl) rfl rfl) ?_
 refine lc (dBs 18 (e:=Yq) YJ (hab:=by exact ⟨_,_,_,_,rfl,⟨[dI P.1],[dI t.1,dB t.2,dI P.2.2],_,_,_,_,rfl,rfl,⟨rfl,rfl⟩,⟨[dI t.1],[dB t.2,dI P.2.2],_,_,_,_,rfl,rfl,⟨rfl,rfl⟩,⟨[dB t.2],[dI P.2.2],_,_,_,_,rfl,rfl,⟨rfl,rfl⟩,⟨rfl,rfl⟩,rfl⟩,rfl⟩,rfl⟩,⟨rfl,rfl⟩,rfl⟩)) ?_
 refine lc (dA 19 QuI) ?_
 refine w2 ?_
 refine Qd ?_
 refine w4 ?_
 refine Qd ?_
 refine l0_ ?_
 exact wp [(15,19)] ⟨rfl,rfl,rfl,rfl,rfl,rfl,(Qm (by rw[QE B];simp[Qnc,a1])),trivial⟩
 have L:=ab K
 refine w12 ?_
 refine lc (Ky (Kh s ((Qo s).1) (k:Int) D (by omega)) QeU ⟨_,_,rfl,(Ev.b (Qn rfl)),⟨_,_,rfl,(QgG (Qn rfl) ⟨_,_,rfl,.inr ⟨_,_,_,_,rfl,rfl,rfl⟩,⟨_,_,rfl,.inr ⟨_,_,_,_,rfl,rfl,rfl⟩,rfl⟩⟩),⟨_,_,rfl,(Ev.b (Qn rfl)),rfl⟩⟩⟩ rfl rfl rfl) ?_
 refine w6 ?_
 refine YC ?_
 obtain ⟨us,u,b7,b8,M⟩:=Qxh (sig:=(k:Int)) a0 (QkW (m:=s.2.1.length) ‹_› (by omega))
 refine w7 ?_
 refine Qu (fun O Q=>∃(i:Nat) (a:List ByteArray),i≤codes.length∧O=codes.length - i∧(UI 0 codes (us.map q0)=UI i a ((us.map q0).drop i))∧(a.length=(Qo s).1.1.length)∧(∀c∈a,c.size≤300*k+i)∧Q=⟨[(1,lP 0 0),(2,lP 1 0),(3,lB false),(4,lP 4 0),(6,lP 12 0),(7,lI (k:Int)),(8,lf (dS ((l5V ((Qo s).1).1.length (QQ s.2.2.1 ((Qo s).1).2) (k:Int)).1))),(47,lI (s.2.1.length:Int)),(48,lI (k:Int)),(49,lB true),(50,lI (k:Int)),(51,PV.tup [(false,[dS ((l5V ((Qo s).1).1.length (QQ s.2.2.1 ((Qo s).1).2) (k:Int)).1)]),(false,[dB ((l5V ((Qo s).1).1.length (QQ s.2.2.1 ((Qo s).1).2) (k:Int)).2)])]),(52,ag [dI s.1.1,.dat XZ s.1.2,.dat Ql s.2.1,.dat XQ s.2.2.1,dS s.2.2.2]),(53,ag [.ref 2,.ref 3]),(54,lI (k:Int)),(55,PV.tup [(false,[dS ((l5V ((Qo s).1).1.length (QQ s.2.2.1 ((Qo s).1).2) (k:Int)).1)]),(false,[dB ((l5V ((Qo s).1).1.length (QQ s.2.2.1 ((Qo s).1).2) (k:Int)).2)])]),(56,lf (dS ((l5V ((Qo s).1).1.length (QQ s.2.2.1 ((Qo s).1).2) (k:Int)).1))),(57,lB ((l5V ((Qo s).1).1.length (QQ s.2.2.1 ((Qo s).1).2) (k:Int)).2)),(58,lP 12 1),(60,lI (codes.length:Int)),(61,lI (i:Int))],[bx 0 164 [dI s.1.1,.dat XZ s.1.2,.dat Ql s.2.1,.dat XQ s.2.2.1,dS s.2.2.2],bx 1 28 [.val (.slice none 0 0),.val (.slice none 0 0),.val (.slice none 0 0)],ar 2 9 .str (((Qo s).1).1),ar 3 229 Z5 (((Qo s).1).2),bx 4 227 [.ref 2,.ref 3],ar 10 103 QI (([])++s.2.1),bx 12 28 [.ref 10,.ref 20,.val (.slice none 0 0)],ar 20 9 .str a]⟩) ⟨0,codes,aL _,rfl,rfl,hL,hZ,rfl⟩ ?_ ?_
 exact wo [(20,13)]
 rintro O Q ⟨i,a,a3,a4,q,C,r,rfl⟩
 refine w4 ?_
 cases z:(decide ((i:Int)<(codes.length:Int)))
 have F:=aa z
 refine w6 ?_
 refine Qd<|QV ⟨k+1,a,by omega,rfl,(by rw[H,Qw7 (by omega) (by rw[M])];exact congrArg _ (by rw[M];exact q.trans (QqS (by omega)))),C,(fun c Z=>bh (r c Z) (by omega)),rfl⟩ (by omega) ?_
 exact wo [(13,20)]
 have F:=ab z
 refine w13 ?_
 refine lc (show Does _ _ _ _ (St.put _ 68 (lf (dS (((l5V ((Qo s).1).1.length (QQ s.2.2.1 ((Qo s).1).2) (k:Int)).1).extract ((i:Int)).toNat ((i:Int)+1).toNat)))) from Zb (l:=(some (i:Int))) (h:=(some ((i:Int)+1))) (Qa rfl) (by exact (Qa rfl)) (by exact (Qa rfl)) Zo rfl (by first|omega|(simp only[ak,aj];omega)) (by first|omega|(simp only[ak,aj];omega)) (by first|omega|(simp only[ak,aj];omega))) ?_
 refine w7 ?_
 cases A:(decide ((((l5V ((Qo s).1).1.length (QQ s.2.2.1 ((Qo s).1).2) (k:Int)).1).extract ((i:Int)).toNat ((i:Int)+1).toNat)=(⟨#[63]⟩:ByteArray)))
 have G:=aa A
 refine w7 ?_
 obtain ⟨R,g⟩:=gx a i
 have U:=r _ (ae g)
 refine w2 ?_
 refine lc (Qw (Qa rfl) (Qa rfl) rfl (by first|(simp only[Q4];omega)|(refine bh (cR (QdQ _ i) _) ?_;omega))) ?_
 refine w_ ?_
 refine lc (QB (e:= .str) (z':=R++(((l5V ((Qo s).1).1.length (QQ s.2.2.1 ((Qo s).1).2) (k:Int)).1).extract ((i:Int)).toNat ((i:Int)+1).toNat)) (Qa rfl) rfl g rfl (Qn rfl) rfl ZX rfl rfl)<|Qd ?_
 refine w4 ?_
 refine Qd<|QV ⟨i+1,(a.set i (R++(((l5V ((Qo s).1).1.length (QQ s.2.2.1 ((Qo s).1).2) (k:Int)).1).extract ((i:Int)).toNat ((i:Int)+1).toNat))),by omega,rfl,by first|exact q.trans (QqU u (by omega) ‹_› g)|exact q.trans (QqT u (by omega) ‹_› g),(by rw[aD];exact C),(Qks r g (by rw[ax];first|exact aO _|exact cR (QdQ _ _) _)),rfl⟩ (by omega) ?_
 exact wp [] ⟨rfl,rfl,rfl,rfl,rfl,rfl,rfl,(Qm (by first|rfl|simp)),trivial⟩
 have G:=ab A
 refine w9 ?_
 obtain ⟨S,o⟩:=gx a i
 have V:=r _ (ae o)
 refine w2 ?_
 refine lc (Qw (Qa rfl) (Qa rfl) rfl (by first|(simp only[Q4];omega)|(refine bh (cR (QdQ _ i) _) ?_;omega))) ?_
 refine w_ ?_
 refine lc (QB (e:= .str) (z':=S++(⟨#[48]⟩:ByteArray)) (Qa rfl) rfl o rfl (Qn rfl) rfl ZX rfl rfl)<|Qd ?_
 refine w4 ?_
 refine Qd<|QV ⟨i+1,(a.set i (S++(⟨#[48]⟩:ByteArray))),by omega,rfl,by first|exact q.trans (QqU u (by omega) ‹_› o)|exact q.trans (QqT u (by omega) ‹_› o),(by rw[aD];exact C),(Qks r o (by rw[ax];first|exact aO _|exact cR (QdQ _ _) _)),rfl⟩ (by omega) ?_
 exact wp [] ⟨rfl,rfl,rfl,rfl,rfl,rfl,rfl,(Qm (by first|rfl|simp)),trivial⟩
 refine w_ ?_
 refine lc (Qk Qev rfl (au.1 rfl) rfl rfl) ?_
 refine w3 ?_
 refine AC.wk (Qr 21 (p:=1) (off:=0) 103 QI rfl rfl (Fresh.of rfl) (nlr rfl))<|AC.wk (Qr 22 (p:=1) (off:=1) 9 .str rfl rfl (Fresh.of rfl) (nlr rfl))<|AC.wk (Qr 23 (p:=1) (off:=2) 139 Yq rfl rfl (Fresh.of rfl) (nlr rfl))<|Qe ?_
 have X:(false:Bool)=((sgV s).2):=by
  (rw[Qd6 ‹_›];done)
 exact fi_ [(0,21),(1,22),(2,23)] T ⟨(Qm (by (rw[Qd6 ‹_›];rfl))),(Qm (by (rw[Qd6 ‹_›];rfl))),(Qm (by (rw[Qd6 ‹_›];rfl))),trivial⟩ (h0:=by rw[← X] <;> rfl)
 have J:=ab I
 refine w8 ?_
 refine lc (Qk Qev rfl (au.1 rfl) rfl rfl) ?_
 refine w3 ?_
 refine AC.wk (Qr 24 (p:=1) (off:=0) 103 QI rfl rfl (Fresh.of rfl) (nlr rfl))<|AC.wk (Qr 25 (p:=1) (off:=1) 9 .str rfl rfl (Fresh.of rfl) (nlr rfl))<|AC.wk (Qr 26 (p:=1) (off:=2) 139 Yq rfl rfl (Fresh.of rfl) (nlr rfl))<|Qe ?_
 have Y:(false:Bool)=((sgV s).2):=by
  (rw[Qd7 (KH (VJ (Yp ‹_›).2.2.2.2.1) ‹_›)];done)
 exact fi_ [(0,24),(1,25),(2,26)] T ⟨(Qm (by (rw[Qd7 (KH (VJ (Yp ‹_›).2.2.2.2.1) ‹_›)];rfl))),(Qm (by (rw[Qd7 (KH (VJ (Yp ‹_›).2.2.2.2.1) ‹_›)];rfl))),(Qm (by (rw[Qd7 (KH (VJ (Yp ‹_›).2.2.2.2.1) ‹_›)];rfl))),trivial⟩ (h0:=by rw[← Y] <;> rfl)
abbrev DRg:=List ByteArray×List DMv
instance (n m:Nat) (v:DMv):Decidable (MvOk n m v):=inferInstanceAs (Decidable (_∧_))
def Qm8 (r:DRg):Prop:=(1≤r.1.length∧r.1.length≤300)∧r.2.length≤4000∧r.1.Nodup∧∀v∈r.2,MvOk r.1.length 24 v
instance (r:DRg):Decidable (Qm8 r):=inferInstanceAs (Decidable (_∧_))
def QBK (l:List ByteArray):List (ByteArray×Bool):=l.foldl (fun m x=>Js .str m x true) []
section
variable {r:DRg}{k:Nat}{x y:ByteArray}{v:DMv}{l:List ByteArray}{m:List (ByteArray×Bool)}
end
def QrZ (f:Int→Bool):Nat→List Int
 | 0=>[]
 | k+1=>QrZ f k++(if f (k:Int)=true then [] else [(k:Int)])
section
variable {f:Int→Bool}{k n:Nat}{α:Type _}{l:List α}{p:α→Bool}{x:α}
end
def byT (r:DRg)(t:Int):Bool:=r.2.any fun v=>decide (v.2.1=t)
def QyY (r:DRg)(t:Int):Bool:=r.2.any fun v=>decide (v.1=t)
def mfV (r:DRg)(k:Int):List DMv×Bool:=if Qm8 r∧0≤k∧k<r.1.length then (r.2.filter fun v=>decide (v.1=k),true) else ([],false)
def dlV (r:DRg):List Int×Bool:=if Qm8 r then (QrZ (QyY r) r.1.length,true) else ([],false)
section
variable [∀s,Decidable (StgOk s)]
def dtV (s:ZG)(r:DRg):List Int×Bool:=if StgOk s∧Qm8 r then (QrZ (byT r) s.2.2.1.length,true) else ([],false)
end
def QBF (k:Int)(ms:List DMv):List DMv:=ms.filter fun v=>decide (v.1=k)
section
variable {α:Type}[DecidableEq α]{a b:List α}{k:Nat}{x y:α}
theorem Qaz (h:¬(a.length:Int)=(b.length:Int)):false=decide (a=b):=(ay fun e=>h (by rw[e])).symm
theorem Qca (c:a[k]? =some x)(d:b[k]? =some y)(h:x≠y):false=decide (a=b):=(ay fun e=>h (by rw[e,d] at c;exact (cN c).symm)).symm
theorem Qfm {α:Type}{a b:List α}{k:Nat}{x y:α}(c:∀j,j<k→a[j]? =b[j]?)(d:a[k]? =some x)(f:b[k]? =some y)(h:x=y):∀j,j<k+1→a[j]? =b[j]? :=fun j g=>by
 by_cases e:j=k
 ·rw[e,d,f,h]
 ·exact c j (by omega)
theorem Qii (e:(a.length:Int)=(b.length:Int))(c:∀j,j<k→a[j]? =b[j]?)(d:a.length≤k):true=decide (a=b):=(aN (bM fun j=>by
 by_cases h:j<k
 ·exact c j h
 ·rw[bD (by omega),bD (by omega)])).symm
theorem QkP {t:Ty}{x y:t.Den}(h:Ty.beq t x y=false):x≠y:=fun e=>by rw[(Ty.beq_iff t x y).2 e] at h;cases h
end
section
variable [∀s,Decidable (StgOk s)]
def QrA (s:ZG):List Int:=(dtV s (Qo s).1).1
def QrG (s:ZG):Bool:=decide ((0:Int)<((dlV (Qo s).1).1.length:Int))
def frV (s:ZG):List Int×Bool×Bool:=if (sgV s).2=true then (QrA s,QrG s,true) else ([],false,false)
def pfI (a b:ZG):Bool×Bool:=if (frV a).2.2=true∧(frV b).2.2=true∧a.2.1=b.2.1∧a.2.2.1=b.2.2.1 then (decide ((frV a).1=(frV b).1)&&(!(frV b).2.1||(frV a).2.1),true) else (false,false)
def pfV (a b:ZG):Bool×Bool:=if (sgV a).2=true∧(sgV b).2=true∧a.2.1=b.2.1∧a.2.2.1=b.2.2.1 then (decide (QrA a=QrA b)&&(QrG a|| !QrG b),true) else (false,false)
section
variable {a b:ZG}
end
end
theorem Y9 (d:Qgr)(h:Qgr):FC Tryz.prog 68 [(false,[.dat Ql d]),(false,[.dat Ql h])] [] 0 (QK (lB (decide (d=h)))):=by
 refine Qj Tryz.func68 rfl rfl Tryz.ntmps68 fun A i z s B u t=> ?_
 refine w6 ?_
 refine alL 6 fun _=> ?_
 refine w2 ?_
 refine alL 8 fun _=> ?_
 refine w3 ?_
 refine cn_ (fun _ _=> ?_) fun _ _=> ?_
 refine w4 ?_
 refine alL 11 fun _=> ?_
 refine w4 ?_
 refine lpK d.length (fun k=>∀j,j<k→d[j]? =h[j]?) (fun k=>⟨[(0,lf (.dat Ql d)),(1,lf (.dat Ql h)),(12,lI (d.length:Int)),(13,lI (k:Int))],[]⟩) ((fun j v=>absurd v (aV j))) ?_ fun k _ n=> ?_
 exact wo []
 refine w4 ?_
 cases e:(decide ((k:Int)<(d.length:Int)))
 have f:=aa e
 refine w6 ?_
 refine Qe<|fqB i ?_
 exact Qii ‹_› n (by omega)
 have f:=ab e
 refine w8 ?_
 obtain ⟨l,g⟩:=gx d k
 obtain ⟨m,c⟩:=gx h k
 apply dW (i8 16 _ _ _ _ _ _ _ _ [io 24 (lB (!(Ty.beq QI l m)))]) [0,1,0,0,15,31,15,15,0]
 refine z8 ?_
 refine zz (fun _ o=>ac (QbV Qij Qih (o.w rfl) (o.w rfl) (p:=l) (q:=m) rfl rfl rfl) rfl) ?_
 exact zN
 cases r:(Ty.beq QI l m)
 refine w4 ?_
 refine Qe<|fqB i ?_
 exact Qca g c (by first|exact QkP ‹_› | assumption)
 refine w6 ?_
 refine Qd ?_
 refine lK_ ((Qfm n g c (by first|exact (Ty.beq_iff _ _ _).1 ‹_› | assumption))) ?_
 exact wo []
 refine w3 ?_
 refine Qe<|fqB i ?_
 exact Qaz ‹_›
theorem Kc (e:List Int)(l:List Int):FC Tryz.prog 60 [(false,[.dat Qs e]),(false,[.dat Qs l])] [] 0 (QK (lB (decide (e=l)))):=by
 refine Qj Tryz.func60 rfl rfl Tryz.ntmps60 fun v m u q w s r=> ?_
 refine w6 ?_
 refine alL 6 fun _=> ?_
 refine w2 ?_
 refine alL 8 fun _=> ?_
 refine w3 ?_
 refine cn_ (fun _ _=> ?_) fun _ _=> ?_
 refine w4 ?_
 refine alL 11 fun _=> ?_
 refine w4 ?_
 refine lpK e.length (fun k=>∀j,j<k→e[j]? =l[j]?) (fun k=>⟨[(0,lf (.dat Qs e)),(1,lf (.dat Qs l)),(12,lI (e.length:Int)),(13,lI (k:Int))],[]⟩) ((fun j t=>absurd t (aV j))) ?_ fun k _ p=> ?_
 exact wo []
 refine w4 ?_
 cases g:(decide ((k:Int)<(e.length:Int)))
 have h:=aa g
 refine w6 ?_
 refine Qe<|fqB m ?_
 exact Qii ‹_› p (by omega)
 have h:=ab g
 refine w8 ?_
 obtain ⟨n,i⟩:=gx e k
 obtain ⟨o,d⟩:=gx l k
 apply dW (i9 16 _ _ _ _ _ _ _ _ _ []) [0,1,0,0,15,31,15,15,0]
 exact y9
 cases c:(!decide (n=o))
 have f:(n=o):=Qz c
 refine w6 ?_
 refine Qd ?_
 refine lK_ ((Qfm p i d (by first|exact (Ty.beq_iff _ _ _).1 ‹_› | assumption))) ?_
 exact wo []
 have f:¬(n=o):=QG c
 refine w4 ?_
 refine Qe<|fqB m ?_
 exact Qca i d (by first|exact QkP ‹_› | assumption)
 refine w3 ?_
 refine Qe<|fqB m ?_
 exact Qaz ‹_›
theorem Jr (a:Qgr)(b:Qgr):FC Tryz.prog 75 [(false,[.dat Ql a]),(false,[.dat Ql b])] [] 0 (QK (lB (decide (a=b)))):=by
 refine Qj Tryz.func75 rfl rfl Tryz.ntmps75 fun v g u o z s r=> ?_
 refine w6 ?_
 refine alL 6 fun _=> ?_
 refine w2 ?_
 refine alL 8 fun _=> ?_
 refine w3 ?_
 refine cn_ (fun _ _=> ?_) fun _ _=> ?_
 refine w4 ?_
 refine alL 11 fun _=> ?_
 refine w4 ?_
 refine lpK a.length (fun k=>∀j,j<k→a[j]? =b[j]?) (fun k=>⟨[(0,lf (.dat Ql a)),(1,lf (.dat Ql b)),(12,lI (a.length:Int)),(13,lI (k:Int))],[]⟩) ((fun j t=>absurd t (aV j))) ?_ fun k _ l=> ?_
 exact wo []
 refine w4 ?_
 cases d:(decide ((k:Int)<(a.length:Int)))
 have e:=aa d
 refine w6 ?_
 refine Qe<|fqB g ?_
 exact Qii ‹_› l (by omega)
 have e:=ab d
 refine w8 ?_
 obtain ⟨h,f⟩:=gx a k
 obtain ⟨i,c⟩:=gx b k
 apply dW (i8 16 _ _ _ _ _ _ _ _ [io 24 (lB (!(Ty.beq QI h i)))]) [0,1,0,0,15,31,15,15,0]
 refine z8 ?_
 refine zz (fun _ m=>ac (QbV Qij Qih (m.w rfl) (m.w rfl) (p:=h) (q:=i) rfl rfl rfl) rfl) ?_
 exact zN
 cases n:(Ty.beq QI h i)
 refine w4 ?_
 refine Qe<|fqB g ?_
 exact Qca f c (by first|exact QkP ‹_› | assumption)
 refine w6 ?_
 refine Qd ?_
 refine lK_ ((Qfm l f c (by first|exact (Ty.beq_iff _ _ _).1 ‹_› | assumption))) ?_
 exact wo []
 refine w3 ?_
 refine Qe<|fqB g ?_
 exact Qaz ‹_›
theorem Q9 {A:Amb}{P:Program}{o:Oper}{s:St}{d:Nat}{b f:Bool}(e:b=f)(h:Does A P o s (s.put d (lf (dB b)))):Does A P o s (s.put d (lf (dB f))):=e▸h
abbrev DSg:=List (ByteArray×Int)×List ByteArray×List DAr
theorem XX (ss:List Qy)[Decidable (Yj ss)]:FC Tryz.prog 59 [(false,[.dat (.sl 103 Y6) ss])] [] 0 (QK (lf (dB (decide (Yj ss))))):=QhY fun e w f h=>by
 obtain ⟨v,rfl,b⟩:=h.leaf1
 exact (Qes v ss w b).mono fun _ _ h=>QbJ h
theorem UB (ss:List Qy)[Decidable (Yj ss)]:FC Tryz.prog 123 [(false,[.dat (.sl 103 Y6) ss])] [] 0 (QK (lf (dB (decide (Yj ss))))):=QhY fun e w f h=>by
 obtain ⟨v,rfl,b⟩:=h.leaf1
 exact (H8 v ss w b).mono fun _ _ h=>QbJ h
def KD (n:Int)(l:ZZ):Prop:=(0≤l.1∧l.1≤n - 1)∨(l.1= -1∧l.2=false)
instance (n:Int) (l:ZZ):Decidable (KD n l):=inferInstanceAs (Decidable (_∨_))
def Ye (s:ByteArray)(n:Int):Prop:=(∀c∈s.toList,c=48∨c=49)∧(s.size:Int)=n
instance (s:ByteArray) (n:Int):Decidable (Ye s n):=inferInstanceAs (Decidable (_∧_))
section
variable {n:Int}{l:ZZ}{s x y:ByteArray}{k:Nat}{c d:UInt8}{a:DAr}
theorem QnU (h:0≤l.1∧l.1≤n - 1):true=decide (KD n l):=(aN (.inl h)).symm
theorem Qsj (h:¬(0≤l.1∧l.1≤n - 1)):Ty.beq QiT l (-1,false)=decide (KD n l):=by
 rw[cj,Ty.beq_iff,aU]
 constructor
 ·rintro rfl;exact .inr ⟨rfl,rfl⟩
 ·rintro (b|b)
  ·exact absurd b h
  ·exact Prod.ext b.1 b.2
theorem Qxk (h:¬(0≤l.1∧l.1≤n - 1))(e:l.1= -1):(!l.2)=decide (KD n l):=by
 rw[cj,aU]
 constructor
 ·intro b;exact .inr ⟨e,by simpa using b⟩
 ·rintro (b|b)
  ·exact absurd b h
  ·simp[b.2]
theorem Qxl (h:¬(0≤l.1∧l.1≤n - 1))(e:¬l.1= -1):false=decide (KD n l):=(ay (by rintro (b|b);exact h b;exact e b.1)).symm
theorem KZ (h:s[((k:Int)).toNat]? =some c):s.toList[k]? =some c:=by
 have h:s[k]? =some c:=h
 rw[bm]
 obtain ⟨b,e⟩:∃b:k<s.size,s[k]=c:=by
  by_cases b:k<s.size
  ·rw[dk s k b] at h;exact ⟨b,cN h⟩
  ·rw[getElem?_neg s k b] at h;cases h
 rw[ao (by simpa using b)]
 rw[← e];simp;rfl
theorem Hn (f:∀j,j<k→∀c,s.toList[j]? =some c→c=48∨c=49)(g:s[((k:Int)).toNat]? =some c)(h:c=48∨c=49):∀j,j<k+1→∀c,s.toList[j]? =some c→c=48∨c=49:=fun j i d b=>by
 by_cases e:j=k
 ·subst e;rw[KZ g] at b;cases b;exact h
 ·exact f j (by omega) d b
theorem Qnk (f:s[((k:Int)).toNat]? =some c)(b:¬c=48)(e:¬c=49):false=decide (Ye s n):=(ay fun h=>by
 rcases h.1 c (ae (KZ f)) with h|h
 ·exact b h
 ·exact e h).symm
theorem Qju (e:∀j,j<k→∀c,s.toList[j]? =some c→c=48∨c=49)(g:s.size≤k):decide ((s.size:Int)=n)=decide (Ye s n):=bF.2 ⟨fun h=>⟨fun c f=>by
 obtain ⟨j,b⟩:=aK.1 f
 have:=(ai.1 b).1
 rw[Ww] at this
 exact e j (by omega) c b,h⟩,fun h=>h.2⟩
def Xa (a:DAr)(x y:ByteArray)(j:Nat):Prop:=if (j:Int)=a.2.1 then (decide (bAt x j=49)= !a.2.2.1∧decide (bAt y j=49)=a.2.2.1) else bAt x j=bAt y j
instance (a:DAr) (x y:ByteArray) (j:Nat):Decidable (Xa a x y j):=by unfold Xa;exact inferInstance
def Fit (a:DAr)(x y:ByteArray):Prop:=∀j,j<x.size→Xa a x y j
instance (a:DAr) (x y:ByteArray):Decidable (Fit a x y):=by unfold Fit;exact inferInstance
theorem QjP (b:∀j,j<k→Xa a x y j)(h:Xa a x y k):∀j,j<k+1→Xa a x y j:=fun j f=>by
 by_cases e:j=k
 ·subst e;exact h
 ·exact b j (by omega)
theorem Qmp (e:k<x.size)(h:¬Xa a x y k):false=decide (Fit a x y):=(ay fun b=>h (b k e)).symm
theorem QuS (b:∀j,j<k→Xa a x y j)(f:x.size≤k):true=decide (Fit a x y):=(aN fun j e=>b j (by omega)).symm
theorem JZ (h:¬(k:Int)=a.2.1)(b:x[((k:Int)).toNat]? =some c)(e:y[((k:Int)).toNat]? =some d):Xa a x y k↔c=d:=by
 unfold Xa;rw[if_neg h,QY b,QY e]
theorem QrR (h:(k:Int)=a.2.1)(b:x[((k:Int)).toNat]? =some c)(e:y[((k:Int)).toNat]? =some d):Xa a x y k↔(decide (c=49)= !a.2.2.1∧decide (d=49)=a.2.2.1):=by
 unfold Xa;rw[if_pos h,QY b,QY e]
theorem Qcq (h:(k:Int)=a.2.1)(g:x[((k:Int)).toNat]? =some c)(b:(decide (c=49)==a.2.2.1)=true):¬Xa a x y k:=by
 unfold Xa;rw[if_pos h,QY g]
 rintro ⟨e,_⟩
 rw[e] at b
 cases f:a.2.2.1 <;> rw[f] at b <;> cases b
theorem Qcr (h:(k:Int)=a.2.1)(g:y[((k:Int)).toNat]? =some d)(b:(decide (d=49)==a.2.2.1)=false):¬Xa a x y k:=by
 unfold Xa;rw[if_pos h,QY g]
 rintro ⟨_,e⟩
 rw[e] at b
 cases f:a.2.2.1 <;> rw[f] at b <;> cases b
theorem Qhf (h:(k:Int)=a.2.1)(j:x[((k:Int)).toNat]? =some c)(m:y[((k:Int)).toNat]? =some d)(b:(decide (c=49)==a.2.2.1)=false)(e:(decide (d=49)==a.2.2.1)=true):Xa a x y k:=by
 rw[QrR h j m]
 cases f:a.2.2.1 <;> rw[f] at b e <;> cases g:decide (c=49) <;> rw[g] at b <;> cases i:decide (d=49) <;> rw[i] at e <;> first|exact ⟨rfl,rfl⟩|exact absurd b (by decide)|exact absurd e (by decide)
def Kt (code:ByteArray)(sig:Int)(b:ByteArray):ByteArray:=(code.extract 0 sig.toNat++b)++code.extract (sig+1).toNat code.size
end
theorem JO (l:Int×Bool)(n:Int)(r:0≤n∧n≤1000000):FC Tryz.prog 145 [(true,[dI l.1,dB l.2]),(false,[dI n])] [] 0 (QK (lB (decide (KD n l)))):=by
 refine Qj Tryz.func145 rfl rfl Tryz.ntmps145 fun m f j g o i h=> ?_
 refine acG 0 0 fun _=> ?_
 refine acI 1 fun _=> ?_
 refine w_ ?_
 refine xbx 0 ?_
 refine w7 ?_
 refine lc (dK (Q7 l.1 0 (n - 1)) Z6) ?_
 refine w_ ?_
 cases b:(decide (0≤l.1∧l.1≤(n - 1)))
 have e:=aa b
 refine w_ ?_
 refine lgy rfl rfl (Qk KG ⟨_,_,rfl,(Evl.ev (Qq rfl)),rfl⟩ (au.1 rfl) rfl rfl)<|lgy rfl rfl (QoP QuM QuL (Qn rfl) (Qn rfl) (p:=l) (q:=((-1),false)) rfl rfl rfl) ?_
 refine w3 ?_
 refine Qe<|fqB f ?_
 exact Qsj ‹_›
 have e:=ab b
 refine w6 ?_
 refine Qe<|fqB f ?_
 exact QnU ‹_›
theorem Qdj (l:Int×Bool)(n:Int)(r:0≤n∧n≤1000000):FC Tryz.prog 201 [(true,[dI l.1,dB l.2]),(false,[dI n])] [] 0 (QK (lB (decide (KD n l)))):=by
 refine Qj Tryz.func201 rfl rfl Tryz.ntmps201 fun p h o i q m j=> ?_
 refine acG 0 0 fun _=> ?_
 refine acI 1 fun _=> ?_
 refine w_ ?_
 refine xbx 0 ?_
 refine w7 ?_
 refine lc (dK (YA l.1 0 (n - 1)) Xj) ?_
 refine w_ ?_
 cases b:(decide (0≤l.1∧l.1≤(n - 1)))
 have e:=aa b
 refine w4 ?_
 cases f:(decide (l.1=(-1)))
 have g:=aa f
 refine w7 ?_
 refine Qe<|fqB h ?_
 exact Qxl ‹_› ‹_›
 have g:=ab f
 refine w7 ?_
 refine Qe<|fqB h ?_
 exact Qxk ‹_› ‹_›
 have e:=ab b
 refine w4 ?_
 refine Qh rfl rfl rfl ?_ rfl
 refine Qh rfl rfl rfl ?_ rfl
 refine Qh rfl rfl rfl ?_ rfl
 refine w4 ?_
 refine Qe<|fqB h ?_
 exact QnU ‹_›
theorem Qfo (s:ByteArray)(n:Int):FC Tryz.prog 101 [(false,[dS s]),(false,[dI n])] [] 0 (QK (lB (decide (Ye s n)))):=by
 refine Qj Tryz.func101 rfl rfl Tryz.ntmps101 fun z p w q A t r=> ?_
 refine acI 1 fun _=> ?_
 refine w8 ?_
 refine lpK s.size (fun k=>∀j,j<k→∀c,s.toList[j]? =some c→c=48∨c=49) (fun k=>⟨[(0,lf (dS s)),(1,lI n),(5,lI (k:Int))],[]⟩) ((fun j v=>absurd v (aV j))) ?_ fun k _ o=> ?_
 exact wo []
 refine w4 ?_
 refine alS 7 fun _=> ?_
 refine lc (Q5 (Qa rfl) rfl Zo) ?_
 refine w2 ?_
 cases e:(decide ((k:Int)<(s.size:Int)))
 have f:=aa e
 refine w5 ?_
 refine alS 22 fun _=> ?_
 refine lc (Q5 (Qa rfl) rfl Zo) ?_
 refine w4 ?_
 refine Qe<|fqB p ?_
 exact Qju o (by omega)
 have f:=ab e
 refine w7 ?_
 obtain ⟨b,u⟩:=gs s (((k:Int)).toNat)
 refine w_ ?_
 refine lc (QP (Qa rfl) (QJ 48 rfl) rfl) ?_
 refine w_ ?_
 cases g:(!decide (b=48))
 have h:(b=48):=Qz g
 refine w13 ?_
 refine Qd ?_
 refine lK_ ((Hn o ‹_› (by first|exact .inl ‹_› | exact .inr ‹_›))) ?_
 exact wo []
 have h:¬(b=48):=QG g
 refine w3 ?_
 refine lgy rfl rfl (QP (Qa rfl) (QJ 49 rfl) rfl) ?_
 refine w2 ?_
 cases i:(!decide (b=49))
 have m:(b=49):=Qz i
 refine w7 ?_
 refine Qd ?_
 refine lK_ ((Hn o ‹_› (by first|exact .inl ‹_› | exact .inr ‹_›))) ?_
 exact wo []
 have m:¬(b=49):=QG i
 refine w4 ?_
 refine Qe<|fqB p ?_
 exact Qnk (k:=k) ‹_› ‹_› ‹_›
theorem JW (s:ByteArray)(n:Int):FC Tryz.prog 106 [(false,[dS s]),(false,[dI n])] [] 0 (QK (lB (decide (Ye s n)))):=by
 refine Qj Tryz.func106 rfl rfl Tryz.ntmps106 fun z p w q A t r=> ?_
 refine acI 1 fun _=> ?_
 refine w8 ?_
 refine lpK s.size (fun k=>∀j,j<k→∀c,s.toList[j]? =some c→c=48∨c=49) (fun k=>⟨[(0,lf (dS s)),(1,lI n),(5,lI (k:Int))],[]⟩) ((fun j v=>absurd v (aV j))) ?_ fun k _ o=> ?_
 exact wo []
 refine w4 ?_
 refine alS 7 fun _=> ?_
 refine lc (Q5 (Qa rfl) rfl Zo) ?_
 refine w2 ?_
 cases e:(decide ((k:Int)<(s.size:Int)))
 have f:=aa e
 refine w5 ?_
 refine alS 22 fun _=> ?_
 refine lc (Q5 (Qa rfl) rfl Zo) ?_
 refine w4 ?_
 refine Qe<|fqB p ?_
 exact Qju o (by omega)
 have f:=ab e
 refine w7 ?_
 obtain ⟨b,u⟩:=gs s (((k:Int)).toNat)
 refine w_ ?_
 refine lc (QP (Qa rfl) (QJ 48 rfl) rfl) ?_
 refine w_ ?_
 cases g:(!decide (b=48))
 have h:(b=48):=Qz g
 refine w13 ?_
 refine Qd ?_
 refine lK_ ((Hn o ‹_› (by first|exact .inl ‹_› | exact .inr ‹_›))) ?_
 exact wo []
 have h:¬(b=48):=QG g
 refine w3 ?_
 refine lgy rfl rfl (QP (Qa rfl) (QJ 49 rfl) rfl) ?_
 refine w2 ?_
 cases i:(!decide (b=49))
 have m:(b=49):=Qz i
 refine w7 ?_
 refine Qd ?_
 refine lK_ ((Hn o ‹_› (by first|exact .inl ‹_› | exact .inr ‹_›))) ?_
 exact wo []
 have m:¬(b=49):=QG i
 refine w4 ?_
 refine Qe<|fqB p ?_
 exact Qnk (k:=k) ‹_› ‹_› ‹_›
theorem Qbo (a:QuF)(x:ByteArray)(y:ByteArray)(J:x.size≤y.size):FC Tryz.prog 146 [(true,[dI a.1,dI a.2.1,dB a.2.2.1,dI a.2.2.2]),(false,[dS x]),(false,[dS y])] [] 0 (QK (lB (decide (Fit a x y)))):=by
 refine Qj Tryz.func146 rfl rfl Tryz.ntmps146 fun L u K E M G F=> ?_
 refine acG 0 0 fun _=> ?_
 refine acG 0 1 fun _=> ?_
 refine acG 0 3 fun _=> ?_
 refine w_ ?_
 refine xbx 0 ?_
 refine w5 ?_
 refine alS 8 fun _=> ?_
 refine lc (Q5 (Qa rfl) rfl Zo) ?_
 refine w3 ?_
 refine lpK x.size (fun k=>∀j,j<k→Xa a x y j) (fun k=>⟨[(1,lf (dS x)),(2,lf (dS y)),(3,lP 0 0),(9,lI (x.size:Int)),(10,lI (k:Int))],[bx 0 139 [dI a.1,dI a.2.1,dB a.2.2.1,dI a.2.2.2]]⟩) ((fun j I=>absurd I (aV j))) ?_ fun k _ z=> ?_
 exact wo []
 refine w4 ?_
 cases p:(decide ((k:Int)<(x.size:Int)))
 have q:=aa p
 refine w6 ?_
 refine Qe<|fqB u ?_
 exact QuS z (by omega)
 have q:=ab p
 refine w16 ?_
 cases r:(!decide ((k:Int)=a.2.1))
 have t:((k:Int)=a.2.1):=Qz r
 refine w_ ?_
 obtain ⟨w,H⟩:=gs x (((k:Int)).toNat)
 cases e:((decide (w=49))==a.2.2.1)
 obtain ⟨g,B⟩:=gs y (((k:Int)).toNat)
 apply dW (i3 26 _ _ _ (io 29 (lB (decide (w=49)))::i2 30 _ _ (io 32 (lB false)::i4 33 _ _ _ _ (io 37 (lB (decide (g=49)))::i2 38 _ _ [io 40 (lB (!((decide (g=49))==a.2.2.1))),io 41 _,io 25 _])))) [0,1,0,0,15,15,0,0,0,256,0,0,3840,3840,0,0,0]
 refine z3 ?_
 refine zz (fun _ b=>ac (Q8 (b.v rfl) (QJ 49 rfl) rfl) rfl) ?_
 refine z2 ?_
 refine zz (fun _ b=>ac (Q9 (e) (X0 (b.v rfl) (b.v rfl) rfl Y7)) rfl) ?_
 refine z4 ?_
 refine zz (fun _ b=>day rfl (b.k rfl) (Q8 (b.v rfl) (QJ 49 rfl) rfl) rfl) ?_
 refine z2 ?_
 refine zz (fun _ b=>day rfl (b.k rfl) (Z0 (b.v rfl) (b.v rfl) rfl Y7) rfl) ?_
 exact y2
 cases A:((decide (g=49))==a.2.2.1)
 refine w4 ?_
 refine Qe<|fqB u ?_
 exact Qmp (k:=k) (by omega) (fun h=>by first|exact absurd ((JZ ‹_› ‹_› ‹_›).1 h) ‹_› | exact Qcq ‹_› ‹_› ‹_› h|exact Qcr ‹_› ‹_› ‹_› h)
 refine w6 ?_
 refine Qd ?_
 refine lK_ ((QjP z (by first|exact (JZ ‹_› ‹_› ‹_›).2 ‹_› | exact Qhf ‹_› ‹_› ‹_› ‹_› ‹_›))) ?_
 exact wo []
 apply dW (i3 26 _ _ _ (io 29 (lB (decide (w=49)))::i2 30 _ _ (io 32 (lB true)::i9 33 _ _ _ _ _ _ _ _ _ [io 25 _]))) [0,1,0,0,15,15,0,0,0,256,0,0,3840,3840,0,0,0]
 refine z3 ?_
 refine zz (fun _ b=>ac (Q8 (b.v rfl) (QJ 49 rfl) rfl) rfl) ?_
 refine z2 ?_
 refine zz (fun _ b=>ac (Q9 (e) (X0 (b.v rfl) (b.v rfl) rfl Y7)) rfl) ?_
 exact y10
 refine w4 ?_
 refine Qe<|fqB u ?_
 exact Qmp (k:=k) (by omega) (fun h=>by first|exact absurd ((JZ ‹_› ‹_› ‹_›).1 h) ‹_› | exact Qcq ‹_› ‹_› ‹_› h|exact Qcr ‹_› ‹_› ‹_› h)
 have t:¬((k:Int)=a.2.1):=QG r
 refine w_ ?_
 obtain ⟨i,C⟩:=gs x (((k:Int)).toNat)
 obtain ⟨m,D⟩:=gs y (((k:Int)).toNat)
 apply dW (i7 18 _ _ _ _ _ _ _ []) [0,1,0,7,15,7,0]
 exact y7
 cases f:(!decide (i=m))
 have o:(i=m):=Qz f
 refine w6 ?_
 refine Qd ?_
 refine lK_ ((QjP z (by first|exact (JZ ‹_› ‹_› ‹_›).2 ‹_› | exact Qhf ‹_› ‹_› ‹_› ‹_› ‹_›))) ?_
 exact wo []
 have o:¬(i=m):=QG f
 refine w4 ?_
 refine Qe<|fqB u ?_
 exact Qmp (k:=k) (by omega) (fun h=>by first|exact absurd ((JZ ‹_› ‹_› ‹_›).1 h) ‹_› | exact Qcq ‹_› ‹_› ‹_› h|exact Qcr ‹_› ‹_› ‹_› h)
theorem WK (code:ByteArray)(sig:Int)(b:ByteArray)(q:0≤sig∧sig<(code.size:Int))(hb:code.size≤1000000∧b.size≤1000000):FC Tryz.prog 202 [(false,[dS code]),(false,[dI sig]),(false,[dS b])] [] 0 (QK (lf (dS (Kt code sig b)))):=by
 refine Qj Tryz.func202 rfl rfl Tryz.ntmps202 fun o j m f p i g=> ?_
 refine acI 1 fun _=> ?_
 refine w3 ?_
 apply dW (i2 7 _ _ (io 9 (lf (dS (code.extract 0 (sig).toNat)))::io 10 _::io 11 (lf (dS ((code.extract 0 (sig).toNat)++b)))::i3 12 _ _ _ [io 15 (lf (dS (code.extract (sig+1).toNat code.size))),io 16 (lf (dS (((code.extract 0 (sig).toNat)++b)++(code.extract (sig+1).toNat code.size)))),io 6 _])) [0,1,0,7,0,31,63,63,31,0,0]
 refine z2 ?_
 refine zz (fun _ e=>ac (show Does _ _ _ _ (St.put _ 9 (lf (dS (code.extract 0 (sig).toNat)))) from Zb (l:=none) (h:=(some sig)) (e.v rfl) (by exact trivial) (by exact (e.v rfl)) Zo rfl (by first|omega|(simp only[ak,aj];omega)) (by first|omega|(simp only[ak,aj];omega)) (by first|omega|(simp only[ak,aj];omega))) rfl) ?_
 refine z_ ?_
 refine zz (fun _ e=>ac (Qw (e.v rfl) (e.v rfl) rfl (by first|omega|(simp only[ax,aT];omega))) rfl) ?_
 refine z3 ?_
 refine zz (fun _ e=>ac (show Does _ _ _ _ (St.put _ 15 (lf (dS (code.extract (sig+1).toNat code.size)))) from Zb (l:=(some (sig+1))) (h:=none) (e.v rfl) (by exact (e.v rfl)) (by exact trivial) Zo rfl (by first|omega|(simp only[ak,aj];omega)) (by first|omega|(simp only[ak,aj];omega)) (by first|omega|(simp only[ak,aj];omega))) rfl)<|zz (fun _ e=>ac (Qw (e.v rfl) (e.v rfl) rfl (by first|omega|(simp only[ax,aT];omega))) rfl) ?_
 exact y1
 refine Qe<|fqS j ?_
 rfl
end Go.Proofs.YtjfpbcmfbnnooaaGreat
