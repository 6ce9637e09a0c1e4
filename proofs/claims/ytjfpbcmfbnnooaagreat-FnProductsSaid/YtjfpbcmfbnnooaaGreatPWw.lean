import Derived.Test.YtjfpbcmfbnnooaaGreatPWp
set_option linter.all false
namespace Go.Proofs.YtjfpbcmfbnnooaaGreat
open Go.RowKit Tryz
set_option maxRecDepth 100000
set_option maxHeartbeats 4000000
def U7:Nat→List BA→List UInt8→List BA
 | _,c,[]=>c
 | i,c,v::vs=>U7 (i+1) (c.set i ((c[i]?).getD ByteArray.empty++⟨#[v]⟩)) vs
def goS (n:Nat)(arcs:List DAr):Nat→Nat→List BA→Option (List BA)
 | 0,_,c=>some c
 | f+1,k,c=>if (UC n arcs (k:Int)).2=true then goS n arcs f (k+1) (U7 0 c (UC n arcs (k:Int)).1) else none
section
variable {n f k i m:Nat}{arcs:List DAr}{c codes:List BA}{vs us:List UInt8}{v:UInt8}{x:BA}
def QhF (hv:vs[i]? =some v)(a:c[i]? =some x):U7 i c (vs.drop i)=U7 (i+1) (c.set i (x++⟨#[v]⟩)) (vs.drop (i+1)):=by
 rw[Yx hv,U7,a]
 rfl
def QsW (h:vs.length≤i):U7 i c (vs.drop i)=c:=by rw[cr h,U7]
def Qkn:∀(i:Nat) (c:List BA) (vs:List UInt8),(U7 i c vs).length=c.length
 | _,_,[]=>by rw[U7]
 | i,c,v::vs=>by rw[U7,Qkn];simp
def QAG (a:k<m)(h:(UC n arcs (k:Int)).2=true):goS n arcs (m - k) k c=goS n arcs (m - (k+1)) (k+1) (U7 0 c (UC n arcs (k:Int)).1):=by
 rw[show m - k=(m - (k+1))+1 by omega,goS,if_pos h]
def QeN (a:m≤k):goS n arcs (m - k) k c=some c:=by rw[show m - k=0 by omega,goS]
def Quh {j:Nat}(h:(UC n arcs (j:Int)).2=false)(d:k≤j)(b:j<k+f):goS n arcs f k c=none:=by
 induction f generalizing k c with
 | zero=>omega
 | succ f a=>
  rw[goS]
  by_cases e:j=k
  ·subst e;rw[if_neg (by rw[h];decide)]
  ·split
   ·exact a (by omega) (by omega)
   ·rfl
def Qop (e:∀a∈arcs,InR n a)(sig:Int):(UC n arcs sig).2=(l5V n arcs sig).2:=by
 rcases Qgu (sig:=sig) e with ⟨b,d,_⟩|⟨us,b,_,d⟩
 ·rw[b,d]
 ·rw[b,d]
def Ql7 (h:¬0<((WS n arcs m).length:Int))(d:k<m):(l5V n arcs (k:Int)).2=true:=by
 induction m with
 | zero=>omega
 | succ m b=>
  simp only[WS,ai] at h
  by_cases e:k=m
  ·subst e
   cases a:(l5V n arcs (k:Int)).2 with
   | true=>rfl
   | false=>rw[a] at h;simp at h
  ·exact b (by omega) (by omega)
def K5 (e:∀a∈arcs,InR n a)(h:0<((WS n arcs m).length:Int)):goS n arcs m 0 c=none:=by
 have:∃j,j<m∧(l5V n arcs (j:Int)).2=false:=by
  induction m with
  | zero=>simp[WS] at h
  | succ m g=>
   simp only[WS,ai] at h
   cases b:(l5V n arcs (m:Int)).2 with
   | false=>exact ⟨m,by omega,b⟩
   | true=>
    rw[b] at h
    obtain ⟨j,o,d⟩:=g (by simpa using h)
    exact ⟨j,by omega,d⟩
 obtain ⟨j,l,b⟩:=this
 exact Quh ((Qop e _).trans b) (aL _) (by omega)
def Qwa (e:∀a∈arcs,InR n a)(sig:Int):(UC n arcs sig).1.length≤n:=by
 rcases Qgu (sig:=sig) e with ⟨_,_,_,b⟩|⟨us,_,d,b⟩
 ·rw[b];exact aL _
 ·rw[b,aC,d];exact aP _
def Qlq {b:Nat}{y:BA}(h:∀z∈c,z.size≤b)(d:c[i]? =some x)(g:y.size≤x.size+1):∀z∈c.set i y,z.size≤b+1:=fun z e=>by
 rcases cE e with a|a
 ·exact de (h z a)
 ·rw[a];have:=h x (ah d);omega
def V8 {ls:List Z3}{b:List DMv}{q:Nat}(h:∀v∈b,MvOk n q v):∀a∈QY ls b,InR n a:=fun a g=>by
 obtain ⟨v,j,rfl⟩:=aW.1 g
 obtain ⟨d,_,e⟩:=h v j
 exact ⟨d,e⟩
def QAQ {sig:Int}(g:∀a∈arcs,InR n a)(h:(l5V n arcs sig).2=true):∃us:List UInt8,(l5V n arcs sig).1=⟨us.toArray⟩∧us.length=n∧(l5V n arcs sig).1.size=n∧UC n arcs sig=(us.map q0,true):=by
 rcases Qgu (sig:=sig) g with ⟨b,_⟩|⟨us,b,d,e⟩
 ·rw[b] at h;cases h
 ·exact ⟨us,by rw[b],d,by rw[b,← d];rfl,e⟩
def QeJ (b:BA)(i:Nat):(b.extract i (i+1)).size≤1:=by simp only[aR];omega
def QC6 (d:us[i]? =some v):(⟨us.toArray⟩:BA).extract i (i+1)=⟨#[v]⟩:=by
 apply dQ
 simp only[ByteArray.data_extract]
 obtain ⟨e,a⟩:=ae.1 d
 apply Array.ext
 ·simp;omega
 ·intro j g b
  have:j=0:=by simp at b;omega
  subst this
  simp[a]
def QzG (a:us[i]? =some v):(us.map q0)[i]? =some (q0 v):=by rw[bl,a];rfl
def QsZ {b:BA}(hb:b=⟨us.toArray⟩)(hi:i<us.length)(g:decide (b.extract i (i+1)=⟨#[63]⟩)=true)(h:c[i]? =some x):U7 i c ((us.map q0).drop i)=U7 (i+1) (c.set i (x++⟨#[48]⟩)) ((us.map q0).drop (i+1)):=by
 have d:=ak hi
 have a:=aa g
 rw[hb,QC6 d] at a
 have e:us[i]=63:=by
  have:=congrArg (fun b:BA=>b.data[0]?) a
  simpa using this
 have:=QhF (QzG d) h
 rwa [show q0 us[i]=48 by rw[e];rfl] at this
def QsY {b:BA}(hb:b=⟨us.toArray⟩)(hi:i<us.length)(g:decide (b.extract i (i+1)=⟨#[63]⟩)=false)(h:c[i]? =some x):U7 i c ((us.map q0).drop i)=U7 (i+1) (c.set i (x++b.extract i (i+1))) ((us.map q0).drop (i+1)):=by
 have d:=ak hi
 have a:=ab g
 rw[hb,QC6 d] at a ⊢
 have:=QhF (QzG d) h
 rwa [show q0 us[i]=us[i] by unfold q0;rw[if_neg];intro e;exact a (by rw[e])] at this
def QsX (h:us.length≤i):U7 i c ((us.map q0).drop i)=c:=QsW (by simpa using h)
end
section
variable [∀s,Decidable (StgOk s)]{s:ZF}{c:List BA}
def QdI:List (BA×Int)×List BA×List DAr:=([],[],[])
def sgV (s:ZF):(List (BA×Int)×List BA×List DAr)×Bool:=
 if (Qp s).2=true∧¬4000<(Qp s).1.2.length then
  (match goS (Qp s).1.1.length (QY s.2.2.1 (Qp s).1.2) s.2.1.length 0 (List.replicate (Qp s).1.1.length ByteArray.empty) with
  | some c=>((s.2.1,c,QY s.2.2.1 (Qp s).1.2),true)
  | none=>(QdI,false))
 else (QdI,false)
def QeZ (h:(Qp s).2=false):sgV s=(QdI,false):=if_neg fun a=>by rw[h] at a;cases a.1
def Qe0 (h:(4000:Int)<((Qp s).1.2.length:Int)):sgV s=(QdI,false):=if_neg fun a=>a.2 (by omega)
def Qe1 (h:goS (Qp s).1.1.length (QY s.2.2.1 (Qp s).1.2) s.2.1.length 0 (List.replicate (Qp s).1.1.length ByteArray.empty)=none):sgV s=(QdI,false):=by
 unfold sgV
 rw[h]
 split <;> rfl
def Qar (a:(Qp s).2=true)(b:¬(4000:Int)<((Qp s).1.2.length:Int))(h:goS (Qp s).1.1.length (QY s.2.2.1 (Qp s).1.2) s.2.1.length 0 (List.replicate (Qp s).1.1.length ByteArray.empty)=some c):
 sgV s=((s.2.1,c,QY s.2.2.1 (Qp s).1.2),true):=by
 unfold sgV
 rw[if_pos ⟨a,by omega⟩,h]
end
def Q2 (s:Qma)[∀s,Decidable (StgOk s)]:FC prog 117 [(true,[dI s.1.1,.dat Yv s.1.2,.dat Qj s.2.1,.dat XK s.2.2.1,dS s.2.2.2])] [] 0 (Is (PV.tup [(true,[.ref 0,.ref 1,.ref 2]),(false,[dB ((sgV s).2)])]) [ar 0 103 QG (((sgV s).1).1),ar 1 9 .str (((sgV s).1).2.1),ar 2 139 Yi (((sgV s).1).2.2)]):=by
 refine Ql func117 rfl rfl ntmps117 fun O_ R b8 a4 X_ a6 a5=>w_ ?_
 refine xbx 0 ?_
 refine lc (xal 1 UB Yq)<|w4 ?_
 refine lc (dG 2 (Qea s) QmN)<|w3 ?_
 refine lc (xal 4 QzO Qj3)<|w8 ?_
 cases b1:((Qp s).2)
 refine w15 ?_
 refine lc (Qh QiK rfl (ao.1 rfl) rfl rfl)<|w3 ?_
 refine AC.wk (Qo 5 (p:=1) (off:=0) 103 QG rfl rfl (Fresh.of rfl) (nlr rfl))<|AC.wk (Qo 6 (p:=1) (off:=1) 9 .str rfl rfl (Fresh.of rfl) (nlr rfl))<|AC.wk (Qo 7 (p:=1) (off:=2) 139 Yi rfl rfl (Fresh.of rfl) (nlr rfl))<|w_ ?_
 have e3:(false:Bool)=((sgV s).2):=by
  (rw[QeZ ‹_›];done)
 exact fi_ [(0,5),(1,6),(2,7)] R ⟨(Qg (by (rw[QeZ ‹_›];rfl))),(Qg (by (rw[QeZ ‹_›];rfl))),(Qg (by (rw[QeZ ‹_›];rfl))),trivial⟩ (h0:=by rw[← e3] <;> rfl)
 refine w2 ?_
 refine lgy rfl rfl (QdJ 8 (Qeo s ((Qp s).1) (Yt (s:=s) ‹_›).2.2.2.2.1 (by have:=(Yt (s:=s) ‹_›).2.2.1;omega) (by have:=Qlp (Yt (s:=s) ‹_›).1.sigs;omega)) QmO ⟨_,_,rfl,(Ev.b (Qm rfl)),⟨_,_,rfl,(Hd (Qm rfl) ⟨_,_,rfl,.inr ⟨_,_,_,_,rfl,rfl,rfl⟩,⟨_,_,rfl,.inr ⟨_,_,_,_,rfl,rfl,rfl⟩,rfl⟩⟩),rfl⟩⟩ rfl (Fresh.of rfl) (nlr rfl))<|w4 ?_
 cases G:(decide (0<((WS ((Qp s).1).1.length (QY s.2.2.1 ((Qp s).1).2) s.2.1.length).length:Int)))
 have H:=ab G
 refine w6 ?_
 refine cd_ (fun _ _=> ?_) fun _ _=> ?_
 refine w_ ?_
 obtain ⟨a0,a8,a9,b0,C,a7⟩:=Yt (s:=s) ‹_›
 have Y:=V8 (ls:=s.2.2.1) C
 have b5:=Qlp a0.sigs
 apply dW [⟨some 36,lR 9,[ar 9 103 QG ([])]⟩,io 37 (lP 0 2),io 38 (lf (.dat Qj s.2.1)),⟨some 39,lR 10,[ar 10 103 QG (([])++s.2.1),(9,none)]⟩,io 40 (lP 4 0),io 41 (lR 2),io 42 (lI ((((Qp s).1).1).length:Int)),⟨some 43,lR 11,[ar 11 9 .str (List.replicate ((((Qp s).1).1).length) (Ty.zero .str))]⟩,io 44 (ag [.ref 10,.ref 11,.val (.slice none 0 0)]),⟨some 6,lP 12 0,[bx 12 28 [.val (.slice none 0 0),.val (.slice none 0 0),.val (.slice none 0 0)]]⟩,⟨none,lf (.val undef),[bx 12 28 [.ref 10,.ref 11,.val (.slice none 0 0)]]⟩] [0,1,1,0,15,15,15,15,0,511,0]
 refine zz (fun _ d=>ac (dBs 9 (e:=QG) WO) rfl)<|z2 ?_
 refine zz (fun _ d=>ac (Zg 10 (d.v rfl) (d.en 9 rfl) (Evl.rep (d.v rfl)) rfl QdH K7 (by first|omega|(simp only[ai,aC,au,av,aB];omega)|(simp only[ai,aX,au,av,aB];omega)) rfl (d.fr 10 rfl) (nlr rfl)) rfl)<|z3 ?_
 exact zz (fun _ d=>ac (WW 11 (e:= .str) (n:=(((Qp s).1).1).length) (d.v rfl) (d.v rfl) Vd QDI rfl (by omega) (by omega) rfl (d.fr 11 rfl) (nlr rfl)) rfl)<|zz (fun _ d=>ac (Qh QiK ⟨_,_,rfl,(d.w rfl),⟨_,_,rfl,(d.w rfl),rfl⟩⟩ (ao.1 (by simp only[QH,Xh,aV,bo];rw[(d.en 10 rfl),(d.en 11 rfl)];rfl)) rfl rfl) rfl)<|zz (fun _ d=>ac (Qa1 12 UB Yq rfl rfl (d.fr 12 rfl) (nlr rfl)) rfl)<|zz (fun _ d=>ac (QR (d.v rfl) (d.en 12 rfl) (d.w rfl) (by simp only[QH,Xh,aV,bo];rw[(d.en 10 rfl),(d.en 11 rfl)];rfl) Yc rfl) rfl)<|zN
 refine w8 ?_
 refine Qy (fun M O=>∃(k:Nat) (codes:List BA),k≤s.2.1.length∧M=s.2.1.length - k∧(goS (Qp s).1.1.length (QY s.2.2.1 (Qp s).1.2) s.2.1.length 0 (List.replicate (Qp s).1.1.length ByteArray.empty)=goS (Qp s).1.1.length (QY s.2.2.1 (Qp s).1.2) (s.2.1.length - k) k codes)∧(codes.length=(Qp s).1.1.length)∧(∀c∈codes,c.size≤300*k)∧O=⟨[(1,lP 0 0),(2,lP 1 0),(3,lB false),(4,lP 4 0),(6,lP 12 0),(47,lI (s.2.1.length:Int)),(48,lI (k:Int))],[bx 0 164 [dI s.1.1,.dat Yv s.1.2,.dat Qj s.2.1,.dat XK s.2.2.1,dS s.2.2.2],bx 1 28 [.val (.slice none 0 0),.val (.slice none 0 0),.val (.slice none 0 0)],ar 2 9 .str (((Qp s).1).1),ar 3 229 QI (((Qp s).1).2),bx 4 227 [.ref 2,.ref 3],ar 10 103 QG (([])++s.2.1),bx 12 28 [.ref 10,.ref 13,.val (.slice none 0 0)],ar 13 9 .str codes]⟩) ⟨0,List.replicate ((((Qp s).1).1).length) (Ty.zero .str),aL _,rfl,rfl,(by simp),(fun c X=>by rw[cV X];exact aL _),rfl⟩ ?_ ?_
 exact wp [(13,11)] ⟨rfl,rfl,rfl,rfl,rfl,rfl,rfl,(Qg rfl),trivial⟩
 rintro M O ⟨k,codes,b2,b3,F,hL,hZ,rfl⟩
 refine w4 ?_
 cases I:(decide ((k:Int)<(s.2.1.length:Int)))
 have J:=ab I
 refine w11 ?_
 refine AC.wk (Qo 14 (p:=12) (off:=2) 139 Yi rfl rfl (Fresh.of rfl) (nlr rfl))<|lp0 ((((Qp s).1).2).length) (fun j=>⟨[(1,lP 0 0),(2,lP 1 0),(3,lB false),(6,lP 12 0),(82,lR 3),(83,lI ((((Qp s).1).2).length:Int)),(84,lI (j:Int))],[bx 0 164 [dI s.1.1,.dat Yv s.1.2,.dat Qj s.2.1,.dat XK s.2.2.1,dS s.2.2.2],bx 1 28 [.val (.slice none 0 0),.val (.slice none 0 0),.val (.slice none 0 0)],ar 3 229 QI (((Qp s).1).2),ar 10 103 QG (([])++s.2.1),bx 12 28 [.ref 10,.ref 13,.ref 15],ar 13 9 .str codes,ar 15 139 Yi ((((Qp s).1).2.take j).map (Qoy s.2.2.1))]⟩) ?_ fun j _=> ?_
 exact wp [(15,14)] ⟨rfl,rfl,rfl,rfl,rfl,rfl,(Qg rfl),trivial⟩
 refine w4 ?_
 cases y:(decide ((j:Int)<((((Qp s).1).2).length:Int)))
 have D:=ab y
 refine w9 ?_
 have U:(true:Bool)=((sgV s).2):=by
  (rw[Qar ‹_› ‹_› (F.trans (QeN (by omega)))];done)
 exact fi_ [(0,10),(1,13),(2,15)] R ⟨(Qg (by (rw[Qar ‹_› ‹_› (F.trans (QeN (by omega)))];rfl))),(Qg (by (rw[Qar ‹_› ‹_› (F.trans (QeN (by omega)))];done))),(Qg (by (rw[Qar ‹_› ‹_› (F.trans (QeN (by omega))),Zy (by omega)];rfl))),trivial⟩ (h0:=by rw[← U] <;> rfl)
 have D:=aa y
 refine w6 ?_
 obtain ⟨N,A⟩:=gx (((Qp s).1).2) j
 have b4:=(C _ (ah A)).2.1
 refine w_ ?_
 refine lc (xal 16 QI JD)<|w7 ?_
 refine alI 91 fun _=> ?_
 obtain ⟨t,L⟩:=gx s.2.2.1 ((N.2.1).toNat)
 have Z:=Qjd L
 refine w2 ?_
 refine lc (xal 17 Q0 Vh)<|w13 ?_
 refine lc (Qh QwM ⟨_,_,rfl,(Qm rfl),⟨_,_,rfl,(Qm rfl),⟨_,_,rfl,(Qm rfl),⟨_,_,rfl,(Qm rfl),rfl⟩⟩⟩⟩ (ao.1 rfl) rfl rfl)<|lc (dBs 18 (e:=Yi) Yp (hab:=by exact ⟨_,_,_,_,rfl,⟨[dI N.1],[dI t.1,dB t.2,dI N.2.2],_,_,_,_,rfl,rfl,⟨rfl,rfl⟩,⟨[dI t.1],[dB t.2,dI N.2.2],_,_,_,_,rfl,rfl,⟨rfl,rfl⟩,⟨[dB t.2],[dI N.2.2],_,_,_,_,rfl,rfl,⟨rfl,rfl⟩,⟨rfl,rfl⟩,rfl⟩,rfl⟩,rfl⟩,⟨rfl,rfl⟩,rfl⟩))<|lc (dA 19 Qxl)<|w2 ?_
 refine Qc<|w4 ?_
 exact Qc<|l0_<|wp [(15,19)] ⟨rfl,rfl,rfl,rfl,rfl,rfl,(Qg (by rw[Qr A];simp[Qoy,Z])),trivial⟩
 have J:=aa I
 refine w12 ?_
 refine lc (WV (KH s ((Qp s).1) (k:Int) C (by omega)) QfL ⟨_,_,rfl,(Ev.b (Qm rfl)),⟨_,_,rfl,(Hd (Qm rfl) ⟨_,_,rfl,.inr ⟨_,_,_,_,rfl,rfl,rfl⟩,⟨_,_,rfl,.inr ⟨_,_,_,_,rfl,rfl,rfl⟩,rfl⟩⟩),⟨_,_,rfl,(Ev.b (Qm rfl)),rfl⟩⟩⟩ rfl rfl rfl)<|w6 ?_
 refine Q5 ?_
 obtain ⟨us,u,b6,b7,K⟩:=QAQ (sig:=(k:Int)) Y (Ql7 (m:=s.2.1.length) ‹_› (by omega))
 refine w7 ?_
 refine Qy (fun M O=>∃(i:Nat) (a:List BA),i≤codes.length∧M=codes.length - i∧(U7 0 codes (us.map q0)=U7 i a ((us.map q0).drop i))∧(a.length=(Qp s).1.1.length)∧(∀c∈a,c.size≤300*k+i)∧O=⟨[(1,lP 0 0),(2,lP 1 0),(3,lB false),(4,lP 4 0),(6,lP 12 0),(8,lf (dS ((l5V ((Qp s).1).1.length (QY s.2.2.1 ((Qp s).1).2) (k:Int)).1))),(47,lI (s.2.1.length:Int)),(48,lI (k:Int)),(60,lI (codes.length:Int)),(61,lI (i:Int))],[bx 0 164 [dI s.1.1,.dat Yv s.1.2,.dat Qj s.2.1,.dat XK s.2.2.1,dS s.2.2.2],bx 1 28 [.val (.slice none 0 0),.val (.slice none 0 0),.val (.slice none 0 0)],ar 2 9 .str (((Qp s).1).1),ar 3 229 QI (((Qp s).1).2),bx 4 227 [.ref 2,.ref 3],ar 10 103 QG (([])++s.2.1),bx 12 28 [.ref 10,.ref 20,.val (.slice none 0 0)],ar 20 9 .str a]⟩) ⟨0,codes,aL _,rfl,rfl,hL,hZ,rfl⟩ ?_ ?_
 exact wo [(20,13)]
 rintro M O ⟨i,a,a2,a3,q,B,r,rfl⟩
 refine w4 ?_
 cases z:(decide ((i:Int)<(codes.length:Int)))
 have E:=ab z
 refine w6 ?_
 exact Qc<|Zb ⟨k+1,a,by omega,rfl,(by rw[F,QAG (by omega) (by rw[K])];exact congrArg _ (by rw[K];exact q.trans (QsX (by omega)))),B,(fun c X=>bi (r c X) (by omega)),rfl⟩ (by omega)<|wo [(13,20)]
 have E:=aa z
 refine w13 ?_
 refine lc (show Does _ _ _ _ (St.put _ 68 (lf (dS (((l5V ((Qp s).1).1.length (QY s.2.2.1 ((Qp s).1).2) (k:Int)).1).extract ((i:Int)).toNat ((i:Int)+1).toNat)))) from QT (l:=(some (i:Int))) (h:=(some ((i:Int)+1))) (Qa rfl) (by exact (Qa rfl)) (by exact (Qa rfl)) Yd rfl (by first|omega|(simp only[aq,ap];omega)) (by first|omega|(simp only[aq,ap];omega)) (by first|omega|(simp only[aq,ap];omega)))<|w7 ?_
 cases a1:(decide ((((l5V ((Qp s).1).1.length (QY s.2.2.1 ((Qp s).1).2) (k:Int)).1).extract ((i:Int)).toNat ((i:Int)+1).toNat)=(⟨#[63]⟩:BA)))
 refine w7 ?_
 obtain ⟨P,g⟩:=gx a i
 have S:=r _ (ah g)
 refine w2 ?_
 refine lc (QX (Qa rfl) (Qa rfl) rfl (by first|(simp only[ZJ];omega)|(refine bi (cW (QeJ _ i) _) ?_;omega))) ?_
 refine w_ ?_
 refine lc (QO (e:= .str) (z':=P++(((l5V ((Qp s).1).1.length (QY s.2.2.1 ((Qp s).1).2) (k:Int)).1).extract ((i:Int)).toNat ((i:Int)+1).toNat)) (Qa rfl) rfl g rfl (Qm rfl) rfl Wv rfl rfl)<|Qc<|w4 ?_
 exact Qc<|Zb ⟨i+1,(a.set i (P++(((l5V ((Qp s).1).1.length (QY s.2.2.1 ((Qp s).1).2) (k:Int)).1).extract ((i:Int)).toNat ((i:Int)+1).toNat))),by omega,rfl,by first|exact q.trans (QsZ u (by omega) ‹_› g)|exact q.trans (QsY u (by omega) ‹_› g),(by rw[ax];exact B),(Qlq r g (by rw[aE];first|exact aP _|exact cW (QeJ _ _) _)),rfl⟩ (by omega)<|wp [] ⟨rfl,rfl,rfl,rfl,rfl,rfl,rfl,(Qg rfl),trivial⟩
 refine w9 ?_
 obtain ⟨Q,o⟩:=gx a i
 have T:=r _ (ah o)
 refine w2 ?_
 refine lc (QX (Qa rfl) (Qa rfl) rfl (by first|(simp only[ZJ];omega)|(refine bi (cW (QeJ _ i) _) ?_;omega))) ?_
 refine w_ ?_
 refine lc (QO (e:= .str) (z':=Q++(⟨#[48]⟩:BA)) (Qa rfl) rfl o rfl (Qm rfl) rfl Wv rfl rfl)<|Qc<|w4 ?_
 exact Qc<|Zb ⟨i+1,(a.set i (Q++(⟨#[48]⟩:BA))),by omega,rfl,by first|exact q.trans (QsZ u (by omega) ‹_› o)|exact q.trans (QsY u (by omega) ‹_› o),(by rw[ax];exact B),(Qlq r o (by rw[aE];first|exact aP _|exact cW (QeJ _ _) _)),rfl⟩ (by omega)<|wp [] ⟨rfl,rfl,rfl,rfl,rfl,rfl,rfl,(Qg rfl),trivial⟩
 refine w_ ?_
 refine lc (Qh QiK rfl (ao.1 rfl) rfl rfl)<|w3 ?_
 refine AC.wk (Qo 21 (p:=1) (off:=0) 103 QG rfl rfl (Fresh.of rfl) (nlr rfl))<|AC.wk (Qo 22 (p:=1) (off:=1) 9 .str rfl rfl (Fresh.of rfl) (nlr rfl))<|AC.wk (Qo 23 (p:=1) (off:=2) 139 Yi rfl rfl (Fresh.of rfl) (nlr rfl))<|w_ ?_
 have V:(false:Bool)=((sgV s).2):=by
  (rw[Qe0 ‹_›];done)
 exact fi_ [(0,21),(1,22),(2,23)] R ⟨(Qg (by (rw[Qe0 ‹_›];rfl))),(Qg (by (rw[Qe0 ‹_›];rfl))),(Qg (by (rw[Qe0 ‹_›];rfl))),trivial⟩ (h0:=by rw[← V] <;> rfl)
 have H:=aa G
 refine w8 ?_
 refine lc (Qh QiK rfl (ao.1 rfl) rfl rfl)<|w3 ?_
 refine AC.wk (Qo 24 (p:=1) (off:=0) 103 QG rfl rfl (Fresh.of rfl) (nlr rfl))<|AC.wk (Qo 25 (p:=1) (off:=1) 9 .str rfl rfl (Fresh.of rfl) (nlr rfl))<|AC.wk (Qo 26 (p:=1) (off:=2) 139 Yi rfl rfl (Fresh.of rfl) (nlr rfl))<|w_ ?_
 have W:(false:Bool)=((sgV s).2):=by
  (rw[Qe1 (K5 (V8 (Yt ‹_›).2.2.2.2.1) ‹_›)];done)
 exact fi_ [(0,24),(1,25),(2,26)] R ⟨(Qg (by (rw[Qe1 (K5 (V8 (Yt ‹_›).2.2.2.2.1) ‹_›)];rfl))),(Qg (by (rw[Qe1 (K5 (V8 (Yt ‹_›).2.2.2.2.1) ‹_›)];rfl))),(Qg (by (rw[Qe1 (K5 (V8 (Yt ‹_›).2.2.2.2.1) ‹_›)];rfl))),trivial⟩ (h0:=by rw[← W] <;> rfl)
abbrev DRg:=List BA×List DMv
instance (n m:Nat) (v:DMv):Decidable (MvOk n m v):=inferInstanceAs (Decidable (_∧_))
def Qou (r:DRg):Prop:=(1≤r.1.length∧r.1.length≤300)∧r.2.length≤4000∧r.1.Nodup∧∀v∈r.2,MvOk r.1.length 24 v
instance (r:DRg):Decidable (Qou r):=inferInstanceAs (Decidable (_∧_))
def QG8 (l:List BA):List (BA×Bool):=l.foldl (fun m x=>Wb .str m x true) []
section
variable {r:DRg}{k:Nat}{x y:BA}{v:DMv}{l:List BA}{m:List (BA×Bool)}
end
def Qug (f:Int→Bool):Nat→List Int
 | 0=>[]
 | k+1=>Qug f k++(if f (k:Int)=true then [] else [(k:Int)])
section
variable {f:Int→Bool}{k n:Nat}{α:Type _}{l:List α}{p:α→Bool}{x:α}
end
def byT (r:DRg)(t:Int):Bool:=r.2.any fun v=>decide (v.2.1=t)
def QC9 (r:DRg)(t:Int):Bool:=r.2.any fun v=>decide (v.1=t)
def mfV (r:DRg)(k:Int):List DMv×Bool:=if Qou r∧0≤k∧k<r.1.length then (r.2.filter fun v=>decide (v.1=k),true) else ([],false)
def dlV (r:DRg):List Int×Bool:=if Qou r then (Qug (QC9 r) r.1.length,true) else ([],false)
section
variable [∀s,Decidable (StgOk s)]
def dtV (s:ZF)(r:DRg):List Int×Bool:=if StgOk s∧Qou r then (Qug (byT r) s.2.2.1.length,true) else ([],false)
end
def QG2 (k:Int)(ms:List DMv):List DMv:=ms.filter fun v=>decide (v.1=k)
section
variable {α:Type}[DecidableEq α]{a b:List α}{k:Nat}{x y:α}
def Qf6 (h:¬(a.length:Int)=(b.length:Int)):false=decide (a=b):=(aj fun e=>h (by rw[e])).symm
def QhV (c:a[k]? =some x)(d:b[k]? =some y)(h:x≠y):false=decide (a=b):=(aj fun e=>h (by rw[e,d] at c;exact (bD c).symm)).symm
def QkI {α:Type}{a b:List α}{k:Nat}{x y:α}(c:∀j,j<k→a[j]? =b[j]?)(d:a[k]? =some x)(f:b[k]? =some y)(h:x=y):∀j,j<k+1→a[j]? =b[j]? :=fun j g=>by
 by_cases e:j=k
 ·rw[e,d,f,h]
 ·exact c j (by omega)
def Qo8 (e:(a.length:Int)=(b.length:Int))(c:∀j,j<k→a[j]? =b[j]?)(d:a.length≤k):true=decide (a=b):=(ay (bL fun j=>by
 by_cases h:j<k
 ·exact c j h
 ·rw[bt (by omega),bt (by omega)])).symm
def QlZ {t:Ty}{x y:t.Den}(h:Ty.beq t x y=false):x≠y:=fun e=>by rw[(Ty.beq_iff t x y).2 e] at h;cases h
end
section
variable [∀s,Decidable (StgOk s)]
def QtM (s:ZF):List Int:=(dtV s (Qp s).1).1
def QtX (s:ZF):Bool:=decide ((0:Int)<((dlV (Qp s).1).1.length:Int))
def frV (s:ZF):List Int×Bool×Bool:=if (sgV s).2=true then (QtM s,QtX s,true) else ([],false,false)
def pfI (a b:ZF):Bool×Bool:=if (frV a).2.2=true∧(frV b).2.2=true∧a.2.1=b.2.1∧a.2.2.1=b.2.2.1 then (decide ((frV a).1=(frV b).1)&&(!(frV b).2.1||(frV a).2.1),true) else (false,false)
def pfV (a b:ZF):Bool×Bool:=if (sgV a).2=true∧(sgV b).2=true∧a.2.1=b.2.1∧a.2.2.1=b.2.2.1 then (decide (QtM a=QtM b)&&(QtX a|| !QtX b),true) else (false,false)
section
variable {a b:ZF}
end
end
def XA (d:QqS)(h:QqS):FC prog 68 [(false,[.dat Qj d]),(false,[.dat Qj h])] [] 0 (QJ (lB (decide (d=h)))):=by
 refine Ql func68 rfl rfl ntmps68 fun A i z s B u t=>w6 ?_
 refine alL 6 fun _=> ?_
 refine w5 ?_
 refine cn_ (fun _ _=> ?_) fun _ _=> ?_
 refine w8 ?_
 refine lpK d.length (fun k=>∀j,j<k→d[j]? =h[j]?) (fun k=>⟨[(0,lf (.dat Qj d)),(1,lf (.dat Qj h)),(12,lI (d.length:Int)),(13,lI (k:Int))],[]⟩) ((fun j v=>absurd v (aS j))) ?_ fun k _ n=> ?_
 exact wo []
 refine w4 ?_
 cases e:(decide ((k:Int)<(d.length:Int)))
 have f:=ab e
 refine w7 ?_
 exact fqB i<|Qo8 ‹_› n (by omega)
 have f:=aa e
 refine w8 ?_
 obtain ⟨l,g⟩:=gx d k
 obtain ⟨m,c⟩:=gx h k
 apply dW (i8 16 _ _ _ _ _ _ _ _ [io 24 (lB (!(Ty.beq QG l m)))]) [0,1,0,0,15,31,15,15,0]
 refine z8 ?_
 exact zz (fun _ o=>ac (WX Qo9 Qo7 (o.w rfl) (o.w rfl) (p:=l) (q:=m) rfl rfl rfl) rfl)<|zN
 cases r:(Ty.beq QG l m)
 refine w5 ?_
 exact fqB i<|QhV g c (by first|exact QlZ ‹_› | assumption)
 refine w6 ?_
 exact Qc<|lK_ ((QkI n g c (by first|exact (Ty.beq_iff _ _ _).1 ‹_› | assumption)))<|wo []
 refine w4 ?_
 exact fqB i<|Qf6 ‹_›
def J1 (a:QqS)(b:QqS):FC prog 75 [(false,[.dat Qj a]),(false,[.dat Qj b])] [] 0 (QJ (lB (decide (a=b)))):=by
 refine Ql func75 rfl rfl ntmps75 fun v g u o z s r=>w6 ?_
 refine alL 6 fun _=> ?_
 refine w5 ?_
 refine cn_ (fun _ _=> ?_) fun _ _=> ?_
 refine w8 ?_
 refine lpK a.length (fun k=>∀j,j<k→a[j]? =b[j]?) (fun k=>⟨[(0,lf (.dat Qj a)),(1,lf (.dat Qj b)),(12,lI (a.length:Int)),(13,lI (k:Int))],[]⟩) ((fun j t=>absurd t (aS j))) ?_ fun k _ l=> ?_
 exact wo []
 refine w4 ?_
 cases d:(decide ((k:Int)<(a.length:Int)))
 have e:=ab d
 refine w7 ?_
 exact fqB g<|Qo8 ‹_› l (by omega)
 have e:=aa d
 refine w8 ?_
 obtain ⟨h,f⟩:=gx a k
 obtain ⟨i,c⟩:=gx b k
 apply dW (i8 16 _ _ _ _ _ _ _ _ [io 24 (lB (!(Ty.beq QG h i)))]) [0,1,0,0,15,31,15,15,0]
 refine z8 ?_
 exact zz (fun _ m=>ac (WX Qo9 Qo7 (m.w rfl) (m.w rfl) (p:=h) (q:=i) rfl rfl rfl) rfl)<|zN
 cases n:(Ty.beq QG h i)
 refine w5 ?_
 exact fqB g<|QhV f c (by first|exact QlZ ‹_› | assumption)
 refine w6 ?_
 exact Qc<|lK_ ((QkI l f c (by first|exact (Ty.beq_iff _ _ _).1 ‹_› | assumption)))<|wo []
 refine w4 ?_
 exact fqB g<|Qf6 ‹_›
def Qz {A:Amb}{P:Program}{o:Oper}{s:St}{d:Nat}{b f:Bool}(e:b=f)(h:Does A P o s (s.put d (lf (dB b)))):Does A P o s (s.put d (lf (dB f))):=e▸h
abbrev DSg:=List (BA×Int)×List BA×List DAr
def Ug (ss:List Qs)[Decidable (Z4 ss)]:FC prog 59 [(false,[.dat (.sl 103 Xy) ss])] [] 0 (QJ (lf (dB (decide (Z4 ss))))):=QcN fun e w f h=>by
 obtain ⟨v,rfl,b⟩:=h.leaf1
 exact (Qfn v ss w b).mono fun _ _ h=>KS h
def WH (ss:List Qs)[Decidable (Z4 ss)]:FC prog 123 [(false,[.dat (.sl 103 Xy) ss])] [] 0 (QJ (lf (dB (decide (Z4 ss))))):=QcN fun e w f h=>by
 obtain ⟨v,rfl,b⟩:=h.leaf1
 exact (QaT v ss w b).mono fun _ _ h=>KS h
def K0 (n:Int)(l:Z3):Prop:=(0≤l.1∧l.1≤n - 1)∨(l.1= -1∧l.2=false)
instance (n:Int) (l:Z3):Decidable (K0 n l):=inferInstanceAs (Decidable (_∨_))
def Q7 (s:BA)(n:Int):Prop:=(∀c∈s.toList,c=48∨c=49)∧(s.size:Int)=n
instance (s:BA) (n:Int):Decidable (Q7 s n):=inferInstanceAs (Decidable (_∧_))
section
variable {n:Int}{l:Z3}{s x y:BA}{k:Nat}{c d:UInt8}{a:DAr}
def Qpp (h:0≤l.1∧l.1≤n - 1):true=decide (K0 n l):=(ay (.inl h)).symm
def QuE (h:¬(0≤l.1∧l.1≤n - 1)):Ty.beq QjO l (-1,false)=decide (K0 n l):=by
 rw[cC,Ty.beq_iff,aY]
 constructor
 ·rintro rfl;exact .inr ⟨rfl,rfl⟩
 ·rintro (b|b)
  ·exact absurd b h
  ·exact Prod.ext b.1 b.2
def QAT (h:¬(0≤l.1∧l.1≤n - 1))(e:l.1= -1):(!l.2)=decide (K0 n l):=by
 rw[cC,aY]
 constructor
 ·intro b;exact .inr ⟨e,by simpa using b⟩
 ·rintro (b|b)
  ·exact absurd b h
  ·simp[b.2]
def QAU (h:¬(0≤l.1∧l.1≤n - 1))(e:¬l.1= -1):false=decide (K0 n l):=(aj (by rintro (b|b);exact h b;exact e b.1)).symm
def Qcq (h:s[((k:Int)).toNat]? =some c):s.toList[k]? =some c:=by
 have h:s[k]? =some c:=h
 rw[bc]
 obtain ⟨b,e⟩:∃b:k<s.size,s[k]=c:=by
  by_cases b:k<s.size
  ·rw[cJ s k b] at h;exact ⟨b,bD h⟩
  ·rw[getElem?_neg s k b] at h;cases h
 rw[ak (by simpa using b)]
 rw[← e];simp;rfl
def Qae (f:∀j,j<k→∀c,s.toList[j]? =some c→c=48∨c=49)(g:s[((k:Int)).toNat]? =some c)(h:c=48∨c=49):∀j,j<k+1→∀c,s.toList[j]? =some c→c=48∨c=49:=fun j i d b=>by
 by_cases e:j=k
 ·subst e;rw[Qcq g] at b;cases b;exact h
 ·exact f j (by omega) d b
def QoG (f:s[((k:Int)).toNat]? =some c)(b:¬c=48)(e:¬c=49):false=decide (Q7 s n):=(aj fun h=>by
 rcases h.1 c (ah (Qcq f)) with h|h
 ·exact b h
 ·exact e h).symm
def Qkq (e:∀j,j<k→∀c,s.toList[j]? =some c→c=48∨c=49)(g:s.size≤k):decide ((s.size:Int)=n)=decide (Q7 s n):=bu.2 ⟨fun h=>⟨fun c f=>by
 obtain ⟨j,b⟩:=aG.1 f
 have:=(ae.1 b).1
 rw[Xp] at this
 exact e j (by omega) c b,h⟩,fun h=>h.2⟩
def Xd (a:DAr)(x y:BA)(j:Nat):Prop:=if (j:Int)=a.2.1 then (decide (bAt x j=49)= !a.2.2.1∧decide (bAt y j=49)=a.2.2.1) else bAt x j=bAt y j
instance (a:DAr) (x y:BA) (j:Nat):Decidable (Xd a x y j):=by unfold Xd;exact inferInstance
def Fit (a:DAr)(x y:BA):Prop:=∀j,j<x.size→Xd a x y j
instance (a:DAr) (x y:BA):Decidable (Fit a x y):=by unfold Fit;exact inferInstance
def QkM (b:∀j,j<k→Xd a x y j)(h:Xd a x y k):∀j,j<k+1→Xd a x y j:=fun j f=>by
 by_cases e:j=k
 ·subst e;exact h
 ·exact b j (by omega)
def QnE (e:k<x.size)(h:¬Xd a x y k):false=decide (Fit a x y):=(aj fun b=>h (b k e)).symm
def Qxz (b:∀j,j<k→Xd a x y j)(f:x.size≤k):true=decide (Fit a x y):=(ay fun j e=>b j (by omega)).symm
def HK (h:¬(k:Int)=a.2.1)(b:x[((k:Int)).toNat]? =some c)(e:y[((k:Int)).toNat]? =some d):Xd a x y k↔c=d:=by
 unfold Xd;rw[if_neg h,QU b,QU e]
def Qua (h:(k:Int)=a.2.1)(b:x[((k:Int)).toNat]? =some c)(e:y[((k:Int)).toNat]? =some d):Xd a x y k↔(decide (c=49)= !a.2.2.1∧decide (d=49)=a.2.2.1):=by
 unfold Xd;rw[if_pos h,QU b,QU e]
def Qdl (h:(k:Int)=a.2.1)(g:x[((k:Int)).toNat]? =some c)(b:(decide (c=49)==a.2.2.1)=true):¬Xd a x y k:=by
 unfold Xd;rw[if_pos h,QU g]
 rintro ⟨e,_⟩
 rw[e] at b
 cases f:a.2.2.1 <;> rw[f] at b <;> cases b
def Qdm (h:(k:Int)=a.2.1)(g:y[((k:Int)).toNat]? =some d)(b:(decide (d=49)==a.2.2.1)=false):¬Xd a x y k:=by
 unfold Xd;rw[if_pos h,QU g]
 rintro ⟨_,e⟩
 rw[e] at b
 cases f:a.2.2.1 <;> rw[f] at b <;> cases b
def Qh0 (h:(k:Int)=a.2.1)(j:x[((k:Int)).toNat]? =some c)(m:y[((k:Int)).toNat]? =some d)(b:(decide (c=49)==a.2.2.1)=false)(e:(decide (d=49)==a.2.2.1)=true):Xd a x y k:=by
 rw[Qua h j m]
 cases f:a.2.2.1 <;> rw[f] at b e <;> cases g:decide (c=49) <;> rw[g] at b <;> cases i:decide (d=49) <;> rw[i] at e <;> first|exact ⟨rfl,rfl⟩|exact absurd b (by decide)|exact absurd e (by decide)
def Wz (code:BA)(sig:Int)(b:BA):BA:=(code.extract 0 sig.toNat++b)++code.extract (sig+1).toNat code.size
end
def Hw (l:Int×Bool)(n:Int)(r:0≤n∧n≤1000000):FC prog 145 [(true,[dI l.1,dB l.2]),(false,[dI n])] [] 0 (QJ (lB (decide (K0 n l)))):=by
 refine Ql func145 rfl rfl ntmps145 fun m f j g o i h=>w_ ?_
 refine xbx 0 ?_
 refine w7 ?_
 refine lc (dK (QE l.1 0 (n - 1)) Za)<|w_ ?_
 cases b:(decide (0≤l.1∧l.1≤(n - 1)))
 have e:=ab b
 refine w_ ?_
 refine lgy rfl rfl (Qh Qaf ⟨_,_,rfl,(Evl.ev (Qn rfl)),rfl⟩ (ao.1 rfl) rfl rfl)<|lgy rfl rfl (H9 Qxp Qxn (Qm rfl) (Qm rfl) (p:=l) (q:=((-1),false)) rfl rfl rfl)<|w4 ?_
 exact fqB f<|QuE ‹_›
 have e:=aa b
 refine w7 ?_
 exact fqB f<|Qpp ‹_›
def Qem (l:Int×Bool)(n:Int)(r:0≤n∧n≤1000000):FC prog 201 [(true,[dI l.1,dB l.2]),(false,[dI n])] [] 0 (QJ (lB (decide (K0 n l)))):=by
 refine Ql func201 rfl rfl ntmps201 fun p h o i q m j=>w_ ?_
 refine xbx 0 ?_
 refine w7 ?_
 refine lc (dK (ZD l.1 0 (n - 1)) Yj)<|w_ ?_
 cases b:(decide (0≤l.1∧l.1≤(n - 1)))
 have e:=ab b
 refine w4 ?_
 cases f:(decide (l.1=(-1)))
 have g:=ab f
 refine w8 ?_
 exact fqB h<|QAU ‹_› ‹_›
 have g:=aa f
 refine w8 ?_
 exact fqB h<|QAT ‹_› ‹_›
 have e:=aa b
 refine w4 ?_
 iterate 3 refine Qf rfl rfl rfl ?_ rfl
 refine w5 ?_
 exact fqB h<|Qpp ‹_›
def Uh (s:BA)(n:Int):FC prog 101 [(false,[dS s]),(false,[dI n])] [] 0 (QJ (lB (decide (Q7 s n)))):=by
 refine Ql func101 rfl rfl ntmps101 fun z p w q A t r=>w8 ?_
 refine lpK s.size (fun k=>∀j,j<k→∀c,s.toList[j]? =some c→c=48∨c=49) (fun k=>⟨[(0,lf (dS s)),(1,lI n),(5,lI (k:Int))],[]⟩) ((fun j v=>absurd v (aS j))) ?_ fun k _ o=> ?_
 exact wo []
 refine w4 ?_
 refine alS 7 fun _=> ?_
 refine w3 ?_
 cases e:(decide ((k:Int)<(s.size:Int)))
 have f:=ab e
 refine w11 ?_
 exact fqB p<|Qkq o (by omega)
 have f:=aa e
 refine w7 ?_
 obtain ⟨b,u⟩:=gs s (((k:Int)).toNat)
 refine w_ ?_
 refine lc (QW (Qa rfl) (QS 48 rfl) rfl)<|w_ ?_
 cases g:(!decide (b=48))
 have h:(b=48):=QB g
 refine w13 ?_
 exact Qc<|lK_ ((Qae o ‹_› (by first|exact .inl ‹_› | exact .inr ‹_›)))<|wo []
 have h:¬(b=48):=QL g
 refine w3 ?_
 refine lgy rfl rfl (QW (Qa rfl) (QS 49 rfl) rfl)<|w2 ?_
 cases i:(!decide (b=49))
 have m:(b=49):=QB i
 refine w7 ?_
 exact Qc<|lK_ ((Qae o ‹_› (by first|exact .inl ‹_› | exact .inr ‹_›)))<|wo []
 have m:¬(b=49):=QL i
 refine w5 ?_
 exact fqB p<|QoG (k:=k) ‹_› ‹_› ‹_›
def HG (s:BA)(n:Int):FC prog 106 [(false,[dS s]),(false,[dI n])] [] 0 (QJ (lB (decide (Q7 s n)))):=by
 refine Ql func106 rfl rfl ntmps106 fun z p w q A t r=>w8 ?_
 refine lpK s.size (fun k=>∀j,j<k→∀c,s.toList[j]? =some c→c=48∨c=49) (fun k=>⟨[(0,lf (dS s)),(1,lI n),(5,lI (k:Int))],[]⟩) ((fun j v=>absurd v (aS j))) ?_ fun k _ o=> ?_
 exact wo []
 refine w4 ?_
 refine alS 7 fun _=> ?_
 refine w3 ?_
 cases e:(decide ((k:Int)<(s.size:Int)))
 have f:=ab e
 refine w11 ?_
 exact fqB p<|Qkq o (by omega)
 have f:=aa e
 refine w7 ?_
 obtain ⟨b,u⟩:=gs s (((k:Int)).toNat)
 refine w_ ?_
 refine lc (QW (Qa rfl) (QS 48 rfl) rfl)<|w_ ?_
 cases g:(!decide (b=48))
 have h:(b=48):=QB g
 refine w13 ?_
 exact Qc<|lK_ ((Qae o ‹_› (by first|exact .inl ‹_› | exact .inr ‹_›)))<|wo []
 have h:¬(b=48):=QL g
 refine w3 ?_
 refine lgy rfl rfl (QW (Qa rfl) (QS 49 rfl) rfl)<|w2 ?_
 cases i:(!decide (b=49))
 have m:(b=49):=QB i
 refine w7 ?_
 exact Qc<|lK_ ((Qae o ‹_› (by first|exact .inl ‹_› | exact .inr ‹_›)))<|wo []
 have m:¬(b=49):=QL i
 refine w5 ?_
 exact fqB p<|QoG (k:=k) ‹_› ‹_› ‹_›
def Qce (a:Int×Int×Bool×Int)(x:BA)(y:BA)(J:x.size≤y.size):FC prog 146 [(true,[dI a.1,dI a.2.1,dB a.2.2.1,dI a.2.2.2]),(false,[dS x]),(false,[dS y])] [] 0 (QJ (lB (decide (Fit a x y)))):=by
 refine Ql func146 rfl rfl ntmps146 fun L u K E M G F=>acG 0 1 fun _=>w_ ?_
 refine xbx 0 ?_
 refine w5 ?_
 refine alS 8 fun _=> ?_
 refine w4 ?_
 refine lpK x.size (fun k=>∀j,j<k→Xd a x y j) (fun k=>⟨[(1,lf (dS x)),(2,lf (dS y)),(3,lP 0 0),(9,lI (x.size:Int)),(10,lI (k:Int))],[bx 0 139 [dI a.1,dI a.2.1,dB a.2.2.1,dI a.2.2.2]]⟩) ((fun j I=>absurd I (aS j))) ?_ fun k _ z=> ?_
 exact wo []
 refine w4 ?_
 cases p:(decide ((k:Int)<(x.size:Int)))
 have q:=ab p
 refine w7 ?_
 exact fqB u<|Qxz z (by omega)
 have q:=aa p
 refine w16 ?_
 cases r:(!decide ((k:Int)=a.2.1))
 have t:((k:Int)=a.2.1):=QB r
 refine w_ ?_
 obtain ⟨w,H⟩:=gs x (((k:Int)).toNat)
 cases e:((decide (w=49))==a.2.2.1)
 obtain ⟨g,B⟩:=gs y (((k:Int)).toNat)
 apply dW (i3 26 _ _ _ (io 29 (lB (decide (w=49)))::i2 30 _ _ (io 32 (lB false)::i4 33 _ _ _ _ (io 37 (lB (decide (g=49)))::i2 38 _ _ [io 40 (lB (!((decide (g=49))==a.2.2.1))),io 41 _,io 25 _])))) [0,1,0,0,15,15,0,0,0,256,0,0,3840,3840,0,0,0]
 refine z3 ?_
 refine zz (fun _ b=>ac (Zf (b.v rfl) (QS 49 rfl) rfl) rfl)<|z2 ?_
 refine zz (fun _ b=>ac (Qz (e) (Wr (b.v rfl) (b.v rfl) rfl YY)) rfl)<|z4 ?_
 refine zz (fun _ b=>day rfl (b.k rfl) (Zf (b.v rfl) (QS 49 rfl) rfl) rfl)<|z2 ?_
 exact zz (fun _ b=>day rfl (b.k rfl) (ZG (b.v rfl) (b.v rfl) rfl YY) rfl)<|y2
 cases A:((decide (g=49))==a.2.2.1)
 refine w5 ?_
 exact fqB u<|QnE (k:=k) (by omega) (fun h=>by first|exact absurd ((HK ‹_› ‹_› ‹_›).1 h) ‹_› | exact Qdl ‹_› ‹_› ‹_› h|exact Qdm ‹_› ‹_› ‹_› h)
 refine w6 ?_
 exact Qc<|lK_ ((QkM z (by first|exact (HK ‹_› ‹_› ‹_›).2 ‹_› | exact Qh0 ‹_› ‹_› ‹_› ‹_› ‹_›)))<|wo []
 apply dW (i3 26 _ _ _ (io 29 (lB (decide (w=49)))::i2 30 _ _ (io 32 (lB true)::i9 33 _ _ _ _ _ _ _ _ _ [io 25 _]))) [0,1,0,0,15,15,0,0,0,256,0,0,3840,3840,0,0,0]
 refine z3 ?_
 refine zz (fun _ b=>ac (Zf (b.v rfl) (QS 49 rfl) rfl) rfl)<|z2 ?_
 exact zz (fun _ b=>ac (Qz (e) (Wr (b.v rfl) (b.v rfl) rfl YY)) rfl)<|y10
 refine w5 ?_
 exact fqB u<|QnE (k:=k) (by omega) (fun h=>by first|exact absurd ((HK ‹_› ‹_› ‹_›).1 h) ‹_› | exact Qdl ‹_› ‹_› ‹_› h|exact Qdm ‹_› ‹_› ‹_› h)
 have t:¬((k:Int)=a.2.1):=QL r
 refine w_ ?_
 obtain ⟨i,C⟩:=gs x (((k:Int)).toNat)
 obtain ⟨m,D⟩:=gs y (((k:Int)).toNat)
 apply dW (i7 18 _ _ _ _ _ _ _ []) [0,1,0,7,15,7,0]
 exact y7
 cases f:(!decide (i=m))
 have o:(i=m):=QB f
 refine w6 ?_
 exact Qc<|lK_ ((QkM z (by first|exact (HK ‹_› ‹_› ‹_›).2 ‹_› | exact Qh0 ‹_› ‹_› ‹_› ‹_› ‹_›)))<|wo []
 have o:¬(i=m):=QL f
 refine w5 ?_
 exact fqB u<|QnE (k:=k) (by omega) (fun h=>by first|exact absurd ((HK ‹_› ‹_› ‹_›).1 h) ‹_› | exact Qdl ‹_› ‹_› ‹_› h|exact Qdm ‹_› ‹_› ‹_› h)
def Xk (code:BA)(sig:Int)(b:BA)(q:0≤sig∧sig<(code.size:Int))(hb:code.size≤1000000∧b.size≤1000000):FC prog 202 [(false,[dS code]),(false,[dI sig]),(false,[dS b])] [] 0 (QJ (lf (dS (Wz code sig b)))):=by
 refine Ql func202 rfl rfl ntmps202 fun o j m f p i g=>acI 1 fun _=>w3 ?_
 apply dW (i2 7 _ _ (io 9 (lf (dS (code.extract 0 (sig).toNat)))::io 10 _::io 11 (lf (dS ((code.extract 0 (sig).toNat)++b)))::i3 12 _ _ _ [io 15 (lf (dS (code.extract (sig+1).toNat code.size))),io 16 (lf (dS (((code.extract 0 (sig).toNat)++b)++(code.extract (sig+1).toNat code.size)))),io 6 _])) [0,1,0,7,0,31,63,63,31,0,0]
 refine z2 ?_
 refine zz (fun _ e=>ac (show Does _ _ _ _ (St.put _ 9 (lf (dS (code.extract 0 (sig).toNat)))) from QT (l:=none) (h:=(some sig)) (e.v rfl) (by exact trivial) (by exact (e.v rfl)) Yd rfl (by first|omega|(simp only[aq,ap];omega)) (by first|omega|(simp only[aq,ap];omega)) (by first|omega|(simp only[aq,ap];omega))) rfl)<|z_ ?_
 refine zz (fun _ e=>ac (QX (e.v rfl) (e.v rfl) rfl (by first|omega|(simp only[aE,aR];omega))) rfl)<|z3 ?_
 exact zz (fun _ e=>ac (show Does _ _ _ _ (St.put _ 15 (lf (dS (code.extract (sig+1).toNat code.size)))) from QT (l:=(some (sig+1))) (h:=none) (e.v rfl) (by exact (e.v rfl)) (by exact trivial) Yd rfl (by first|omega|(simp only[aq,ap];omega)) (by first|omega|(simp only[aq,ap];omega)) (by first|omega|(simp only[aq,ap];omega))) rfl)<|zz (fun _ e=>ac (QX (e.v rfl) (e.v rfl) rfl (by first|omega|(simp only[aE,aR];omega))) rfl)<|y1
 refine w_ ?_
 refine fqS j ?_
 rfl
def ZP (c:DSg)(i:Int):BA:=(c.2.1[i.toNat]?).getD ByteArray.empty
def XS (c:DSg)(a:DAr):Prop:=(0≤a.1∧a.1≤(c.2.1.length:Int) - 1)∧(0≤a.2.2.2∧a.2.2.2≤(c.2.1.length:Int) - 1)∧K0 (c.1.length:Int) (a.2.1,a.2.2.1)∧Fit a (ZP c a.1) (ZP c a.2.2.2)
instance (c:DSg) (a:DAr):Decidable (XS c a):=inferInstanceAs (Decidable (_∧_))
section
variable {c:DSg}{a:DAr}{x y b code:BA}{n sig p:Int}{j k m:Nat}
def ZH (h:c.2.1[p.toNat]? =some x):ZP c p=x:=by unfold ZP;rw[h];rfl
def X6 (m:BA)(p:Int):bAt m p=(m.toList[p.toNat]?).getD 0:=by
 unfold bAt
 rw[bc]
 by_cases h:p.toNat<m.size
 ·rw[cJ m p.toNat h,ak (by simpa using h)]
  rfl
 ·rw[getElem?_neg m p.toNat h,bt (by simpa using h)]
def K2 (g:x.size=y.size)(h:∀j:Nat,j<x.size→bAt x (j:Int)=bAt y (j:Int)):x=y:=by
 have e:x.toList=y.toList:=bL fun j=>by
  by_cases d:j<x.size
  ·have h1:=h j d
   rw[X6,X6] at h1
   have h2:j<x.toList.length:=by rw[Xp];exact d
   have h3:j<y.toList.length:=by rw[Xp,← g];exact d
   have f:((j:Int)).toNat=j:=rfl
   rw[f,ak h2,ak h3] at h1
   rw[ak h2,ak h3]
   exact congrArg some h1
  ·rw[bt (by rw[Xp];omega),bt (by rw[Xp];omega)]
 rw[bc,bc] at e
 exact dQ (dp.1 e)
def Qdy (code:BA)(sig:Int)(b:BA):(Wz code sig b).toList=code.toList.take sig.toNat++(b.toList++code.toList.drop (sig+1).toNat):=by
 have h:code.data.size=code.size:=rfl
 simp only[Wz,bc,cN,ByteArray.data_extract,cG,Array.toList_extract,aM]
 simp[h,List.extract_eq_take_drop]
 rw[aJ (by simp[h])]
def Va (h0:0≤sig)(h1:sig<code.size)(hb:b.size=1):(Wz code sig b).size=code.size:=by
 rw[← Xp,Qdy]
 simp only[ai,au,aX,Xp,hb]
 omega
def QcE (h0:0≤sig)(h1:sig<code.size)(hb:b.size=1)(g:j<code.size):bAt (Wz code sig b) (j:Int)=if (j:Int)=sig then bAt b 0 else bAt code (j:Int):=by
 rw[X6,Qdy,X6,X6]
 have i:=Xp code
 have f:=Xp b
 have d:((j:Int)).toNat=j:=rfl
 rw[d]
 by_cases e:(j:Int)=sig
 ·rw[if_pos e,bw (by rw[au];omega),bm (by rw[au];omega)]
  rw[show j - (code.toList.take sig.toNat).length=((0:Int)).toNat by rw[au];show _=0;omega]
 ·rw[if_neg e]
  by_cases h:(j:Int)<sig
  ·rw[bm (by rw[au];omega),bf,if_pos (by omega)]
  ·rw[bw (by rw[au];omega),bw (by rw[au];omega),dy]
   congr 2
   rw[au]
   omega
def UR (h:Q7 x n)(e:j<x.size):bAt x (j:Int)=48∨bAt x (j:Int)=49:=by
 have h2:j<x.toList.length:=by rw[Xp];exact e
 rw[X6]
 have d:((j:Int)).toNat=j:=rfl
 rw[d,ak h2]
 exact h.1 _ (cZ h2)
def QcU (b:Bool):bAt (Z0 b) 0=if b=true then 49 else 48:=by cases b <;> rfl
def ZV (b:Bool):(Z0 b).size=1:=rfl
def Qez {c:UInt8}{b:Bool}(h:c=48∨c=49):decide (c=49)=b↔c=if b=true then 49 else 48:=by
 rcases h with rfl|rfl <;> cases b <;> decide
def Qxy (hx:Q7 x n)(hy:Q7 y n)(f:a.2.1<0):Fit a x y↔x=y:=by
 have d:x.size=y.size:=by have:=hx.2;have:=hy.2;omega
 constructor
 ·intro h
  refine K2 d fun j e=> ?_
  have:=h j e
  unfold Xd at this
  rwa [if_neg (by omega)] at this
 ·rintro rfl j e
  unfold Xd
  rw[if_neg (by omega)]
def Qpb (hx:Q7 x n)(hy:Q7 y n)(s:¬a.2.1<0)(r:a.2.1<n):Fit a x y↔x=Wz y a.2.1 (Z0 (!a.2.2.1))∧y=Wz x a.2.1 (Z0 a.2.2.1):=by
 have o:=hx.2
 have q:=hy.2
 have t:=Va (code:=y) (sig:=a.2.1) (b:=Z0 (!a.2.2.1)) (by omega) (by omega) (ZV _)
 have z2:=Va (code:=x) (sig:=a.2.1) (b:=Z0 a.2.2.1) (by omega) (by omega) (ZV _)
 have f:=fun (j:Nat) d=>QcE (j:=j) (code:=y) (sig:=a.2.1) (b:=Z0 (!a.2.2.1)) (by omega) (by omega) (ZV _) d
 have g:=fun (j:Nat) d=>QcE (j:=j) (code:=x) (sig:=a.2.1) (b:=Z0 a.2.2.1) (by omega) (by omega) (ZV _) d
 constructor
 ·intro h
  constructor
  ·refine K2 (by omega) fun j d=> ?_
   rw[f j (by omega),QcU]
   have h1:=h j d
   unfold Xd at h1
   split
   ·rename_i e
    rw[if_pos e] at h1
    exact (Qez (UR hx d)).1 h1.1
   ·rename_i e
    rwa [if_neg e] at h1
  ·refine K2 (by omega) fun j d=> ?_
   rw[g j (by omega),QcU]
   have h1:=h j (by omega)
   unfold Xd at h1
   split
   ·rename_i e
    rw[if_pos e] at h1
    exact (Qez (UR hy d)).1 h1.2
   ·rename_i e
    rw[if_neg e] at h1
    exact h1.symm
 ·rintro ⟨i,l⟩ j d
  have h1:=f j (by omega)
  have h2:=g j d
  rw[← i,QcU] at h1
  rw[← l,QcU] at h2
  unfold Xd
  split
  ·rename_i e
   rw[if_pos e] at h1 h2
   exact ⟨(Qez (UR hx d)).2 h1,(Qez (UR hy (by omega))).2 h2⟩
  ·rename_i e
   rwa [if_neg e] at h1
def QwE (h:¬(0≤a.1∧a.1≤(c.2.1.length:Int) - 1)):false=decide (XS c a):=(aj fun g=>h g.1).symm
def QwF (h:¬(0≤a.2.2.2∧a.2.2.2≤(c.2.1.length:Int) - 1)):false=decide (XS c a):=(aj fun g=>h g.2.1).symm
def QwG (h:¬K0 (c.1.length:Int) (a.2.1,a.2.2.1)):false=decide (XS c a):=(aj fun g=>h g.2.2.1).symm
def QnR (h3:K0 (c.1.length:Int) (a.2.1,a.2.2.1))(d:¬a.2.1<0):a.2.1<(c.1.length:Int):=by
 rcases h3 with h|h
 ·have h:0≤a.2.1∧a.2.1≤(c.1.length:Int) - 1:=h;omega
 ·have h:a.2.1= -1:=h.1;omega
section
variable (h1:0≤a.1∧a.1≤(c.2.1.length:Int) - 1)(h2:0≤a.2.2.2∧a.2.2.2≤(c.2.1.length:Int) - 1)(h3:K0 (c.1.length:Int) (a.2.1,a.2.2.1))(hx:c.2.1[a.1.toNat]? =some x)(hy:c.2.1[a.2.2.2.toNat]? =some y)
include h1 h2 h3 hx hy
def QiH:XS c a↔Fit a x y:=by
 unfold XS
 rw[ZH hx,ZH hy]
 exact ⟨fun g=>g.2.2.2,fun g=>⟨h1,h2,h3,g⟩⟩
def QwD (hb:∀x∈c.2.1,Q7 x (c.1.length:Int))(d:a.2.1<0):decide (x=y)=decide (XS c a):=bu.2 (by rw[QiH h1 h2 h3 hx hy,Qxy (hb x (ah hx)) (hb y (ah hy)) d])
def Qs8 (hb:∀x∈c.2.1,Q7 x (c.1.length:Int))(d:¬a.2.1<0)(h:¬x=Wz y a.2.1 (Z0 (!a.2.2.1))):false=decide (XS c a):=(aj fun g=>by
 rw[QiH h1 h2 h3 hx hy,Qpb (hb x (ah hx)) (hb y (ah hy)) d (QnR h3 d)] at g
 exact h g.1).symm
def Qs9 (hb:∀x∈c.2.1,Q7 x (c.1.length:Int))(d:¬a.2.1<0)(h:x=Wz y a.2.1 (Z0 (!a.2.2.1))):decide (y=Wz x a.2.1 (Z0 a.2.2.1))=decide (XS c a):=bu.2 (by
 rw[QiH h1 h2 h3 hx hy,Qpb (hb x (ah hx)) (hb y (ah hy)) d (QnR h3 d)]
 exact ⟨fun g=>⟨h,g⟩,fun g=>g.2⟩)
end
end
def Qho (c:Yw)(a:Int×Int×Bool×Int)(f:∀x∈c.2.1,Q7 x (c.1.length:Int))(F:c.1.length≤1000):FC prog 124 [(true,[.dat Qj c.1,.dat Qd c.2.1,.dat Qq c.2.2]),(true,[dI a.1,dI a.2.1,dB a.2.2.1,dI a.2.2.2])] [] 0 (QJ (lB (decide (XS c a)))):=by
 refine Ql func124 rfl rfl ntmps124 fun I l H C J E D=>acG 1 0 fun _=>acG 1 1 fun _=>acG 1 3 fun _=>w_ ?_
 refine xbx 0 ?_
 refine xbx 1 ?_
 refine w8 ?_
 refine alL 10 fun _=> ?_
 refine w2 ?_
 refine lc (dK (ZD a.1 0 ((c.2.1.length:Int) - 1)) Yj)<|w2 ?_
 cases o:(decide (0≤a.1∧a.1≤((c.2.1.length:Int) - 1)))
 have q:=ab o
 refine w16 ?_
 refine w11 ?_
 exact fqB l<|QwE ‹_›
 have q:=aa o
 refine w6 ?_
 refine lgy rfl rfl (dK (ZD a.2.2.2 0 ((c.2.1.length:Int) - 1)) Yj)<|w3 ?_
 cases r:(decide (0≤a.2.2.2∧a.2.2.2≤((c.2.1.length:Int) - 1)))
 have s:=ab r
 refine w16 ?_
 refine w_ ?_
 exact fqB l<|QwF ‹_›
 have s:=aa r
 refine w4 ?_
 refine lgy rfl rfl (Qh Qaf ⟨_,_,rfl,(Qm rfl),⟨_,_,rfl,(Qm rfl),rfl⟩⟩ (ao.1 rfl) rfl rfl)<|w3 ?_
 refine lgy rfl rfl (dK (Qem (a.2.1,a.2.2.1) (c.1.length:Int) (by omega)) QmR)<|w3 ?_
 cases t:(decide (K0 (c.1.length:Int) (a.2.1,a.2.2.1)))
 have u:=ab t
 refine w5 ?_
 exact fqB l<|QwG ‹_›
 have u:=aa t
 refine w2 ?_
 obtain ⟨i,w⟩:=gx c.2.1 ((a.1).toNat)
 have A:=(f _ (ah w)).2
 obtain ⟨g,z⟩:=gx c.2.1 ((a.2.2.2).toNat)
 have B:=(f _ (ah z)).2
 apply dW (i9 37 _ _ _ _ _ _ _ _ _ (i3 46 _ _ _ (i2 5 _ _ []))) [0,0,3,3,0,0,63,63,255,255,63,63,4032,0]
 exact y14
 refine w6 ?_
 refine cd_ (fun _ _=> ?_) fun _ _=> ?_
 refine w_ ?_
 have G:=QnR (c:=c) (a:=a) ‹_› ‹_›
 cases d:(decide (i=(Wz g a.2.1 (Z0 (!a.2.2.1)))))
 have h:=ab d
 apply dW (i7 55 _ _ _ _ _ _ _ (io 62 (lf (dS (Z0 (!a.2.2.1))))::io 63 (lf (dS (Wz g a.2.1 (Z0 (!a.2.2.1)))))::io 64 (lB false)::i9 65 _ _ _ _ _ _ _ _ _ (i2 74 _ _ [io 4 _]))) [0,1,3,3,15,15,15,15,1,0,0,0,2048,6144,6144,30720,30720,30720,2048,0,0,0]
 refine z7 ?_
 exact zz (fun _ e=>ac (dK (Yu (!a.2.2.1)) XE) rfl)<|zz (fun _ e=>ac (dK (Xk g a.2.1 (Z0 (!a.2.2.1)) (by omega) ⟨by omega,by rw[ZV];decide⟩) W0) rfl)<|zz (fun _ e=>ac (Qz (d) (Qaa (e.v rfl) (e.v rfl) rfl)) rfl)<|y12
 refine w_ ?_
 exact fqB l<|Qs8 ‹_› ‹_› ‹_› (x:=i) (y:=g) ‹_› ‹_› f ‹_› ‹_›
 have h:=aa d
 apply dW (i7 55 _ _ _ _ _ _ _ (io 62 (lf (dS (Z0 (!a.2.2.1))))::io 63 (lf (dS (Wz g a.2.1 (Z0 (!a.2.2.1)))))::io 64 (lB true)::i7 65 _ _ _ _ _ _ _ (io 72 (lf (dS (Z0 a.2.2.1)))::io 73 (lf (dS (Wz i a.2.1 (Z0 a.2.2.1))))::i2 74 _ _ [io 4 _]))) [0,1,3,3,15,15,15,15,1,0,0,0,2048,6144,6144,30720,30720,30720,2048,0,0,0]
 refine z7 ?_
 refine zz (fun _ e=>ac (dK (Yu (!a.2.2.1)) XE) rfl)<|zz (fun _ e=>ac (dK (Xk g a.2.1 (Z0 (!a.2.2.1)) (by omega) ⟨by omega,by rw[ZV];decide⟩) W0) rfl)<|zz (fun _ e=>ac (Qz (d) (Qaa (e.v rfl) (e.v rfl) rfl)) rfl)<|z7 ?_
 exact zz (fun _ e=>day rfl (e.k rfl) (dK (Yu a.2.2.1) XE) rfl)<|zz (fun _ e=>day rfl (e.k rfl) (dK (Xk i a.2.1 (Z0 a.2.2.1) (by omega) ⟨by omega,by rw[ZV];decide⟩) W0) rfl)<|y3
 refine w_ ?_
 exact fqB l<|Qs9 ‹_› ‹_› ‹_› (x:=i) (y:=g) ‹_› ‹_› f ‹_› ‹_›
 refine w7 ?_
 exact fqB l<|QwD ‹_› ‹_› ‹_› (x:=i) (y:=g) ‹_› ‹_› f ‹_›
end Go.Proofs.YtjfpbcmfbnnooaaGreat
