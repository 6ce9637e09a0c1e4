import Derived.Test.YtjfpbcmfbnnooaaGreatPDk
import Derived.Test.YtjfpbcmfbnnooaaGreatPDd
set_option linter.all false
namespace Go.Proofs.YtjfpbcmfbnnooaaGreat
open Go.RowKit Tryz
set_option maxRecDepth 100000
set_option maxHeartbeats 4000000
def unN (a b:XZ):XZ:=(a.1+b.1,a.2++b.2.map (Qok a.1))
def unL (n:Nat)(l:Z3):Z3:=if 0≤l.1 then (l.1+(n:Int),l.2) else l
def unS (a b:ZF):ZF:=(unN a.1 b.1,a.2.1++b.2.1,a.2.2.1++b.2.2.1.map (unL a.2.1.length),a.2.2.2++b.2.2.2)
def Qp4 {l:List Int}{hi:Int}(h:Hh l hi):∀x∈l,0≤x∧x≤hi:=fun x b=>by
 obtain ⟨k,a⟩:=aG.1 b
 exact (h k (ae.1 a).1 x a).1
def Qp2:∀{l:List Int} {hi:Int},Hh l hi→ -1≤hi→(l.length:Int)≤hi+1:=fun {l hi} h g=>by
 have b:∀(k:Nat) x,l[k]? =some x→(k:Int)≤x:=fun k=>by
  induction k with
  | zero=>intro x a;exact (h 0 (ae.1 a).1 x a).1.1
  | succ k f=>
   intro x a
   have c:=(ae.1 a).1
   obtain ⟨y,d⟩:∃y,l[k]? =some y:=⟨_,ak (by omega)⟩
   have e:=f y d
   have i:=(h (k+1) c x a).2 k y rfl d
   omega
 by_cases j:l.length=0
 ·omega
 ·obtain ⟨x,a⟩:∃x,l[l.length - 1]? =some x:=⟨_,ak (by omega)⟩
  have c:=b _ x a
  have e:=(h _ (ae.1 a).1 x a).1.2
  omega
def VH {n:XZ}(h:Xn n):(1≤n.1∧n.1≤30)∧n.2.length≤24∧∀t∈n.2,(t.1.length≤30∧t.2.length≤30)∧(∀x∈t.1,0≤x∧x≤29)∧∀x∈t.2,0≤x∧x≤29:=by
 obtain ⟨d,e,f⟩:=h
 refine ⟨d,e,fun t g=> ?_⟩
 obtain ⟨_,b,c⟩:=f t g
 have i:=Qp2 b (by omega)
 have j:=Qp2 c (by omega)
 exact ⟨⟨by omega,by omega⟩,fun x a=>by have:=Qp4 b x a;omega,fun x a=>by have:=Qp4 c x a;omega⟩
def JL (l:List Int)(d:Int)(p:l.length≤100000)(hb:∀x∈l,-9223372036854775808≤x+d∧x+d≤9223372036854775807):FC prog 338 [(false,[.dat Qv l]),(false,[dI d])] [] 0 (WB 3 .int (l.map fun x=>x+d)):=by
 refine Ql func338 rfl rfl ntmps338 fun n i m f o h g=>w13 ?_
 refine AC.wk (Wk.nilS 0 5 3 .int rfl (Fresh.of rfl) (nlr rfl))<|lp0 l.length (fun k=>⟨[(1,lI d),(4,lf (.val (.slice none 0 0))),(5,lR 1),(8,lf (.dat Qv l)),(9,lI (l.length:Int)),(10,lI (k:Int))],[ar 1 3 .int ((l.take k).map fun x=>x+d)]⟩) ?_ fun k _=> ?_
 exact wp [(1,0)] ⟨(Qg (by simp)),trivial⟩
 refine w4 ?_
 cases a:(decide ((k:Int)<(l.length:Int)))
 have b:=ab a
 refine w8 ?_
 refine fo_ i ?_
 ·(rw[Zy (by omega)];done)
 have b:=aa a
 refine w5 ?_
 obtain ⟨q,c⟩:=gx l k
 have j:=hb _ (ah c)
 refine w9 ?_
 refine lc (dBs 2 (e:= .int) Ye)<|lc (dA 3 Xg)<|w_ ?_
 refine Qc<|w4 ?_
 exact Qc<|l0_<|wp [(1,3)] ⟨(Qg (by rw[Qr c];simp)),trivial⟩
def Up (n:XZ)[Decidable (Xn n)]:FC prog 298 [(true,leaves QdC n)] [] 0 (QJ (lf (dB (decide (Xn n))))):=QcN fun d w e h=>by
 obtain ⟨c,rfl,a⟩:=h.agg1
 have b:=a.len
 match c,b with
 | [a0,a1],_=>exact (Qgr a0 a1 n w a).mono fun _ _ h=>KS h
def QDt {n:Nat}{l:Z3}(h:QhC n l): -1≤l.1∧l.1≤(n:Int):=by
 unfold QhC at h;omega
def Qcg (a:QqR)(b:QqR)[∀s,Decidable (StgOk s)][∀s,Decidable (Xn s)](C:Ty.tot QdC a≤2000000):FC prog 294 [(true,[dI a.1,.dat Yv a.2]),(true,[dI b.1,.dat Yv b.2])] [] 0 (Ex (fun x:XZ×Bool=>x.2=true→x.1=unN a b) (fun x:XZ×Bool=>PV.tup [(true,[dI x.1.1,.ref 0]),(false,[dB x.2])]) (fun x:XZ×Bool=>[ar 0 290 Zu x.1.2])):=by
 refine Ql func294 rfl rfl ntmps294 fun E t D u F A y=>acG 0 0 fun _=>acG 1 0 fun _=>w_ ?_
 refine xbx 0 ?_
 refine xbx 1 ?_
 refine lc (xal 2 Qlz Qax)<|w5 ?_
 refine lc (dK (Up a) Qbo)<|w2 ?_
 cases i:(decide (Xn a))
 have j:=ab i
 refine w7 ?_
 refine lc (Qh QeA rfl (ao.1 rfl) rfl rfl)<|w3 ?_
 refine AC.wk (Qo 3 (p:=2) (off:=1) 290 Zu rfl rfl (Fresh.of rfl) (nlr rfl))<|w_ ?_
 subst t
 refine QZ (x:=((0,[]),false)) [(0,3)] ?_ (YF rfl (Rs.cell rfl rfl Qe4 rfl) (U5 rfl)) rfl ⟨rfl,trivial⟩ rfl rfl
 exact fun h=>absurd h (by decide)
 have j:=aa i
 refine w_ ?_
 refine lgy rfl rfl (dK (Up b) Qbo)<|w3 ?_
 cases l:(decide (Xn b))
 have m:=ab l
 refine w2 ?_
 refine lc (Qh QeA rfl (ao.1 rfl) rfl rfl)<|w3 ?_
 refine AC.wk (Qo 4 (p:=2) (off:=1) 290 Zu rfl rfl (Fresh.of rfl) (nlr rfl))<|w_ ?_
 subst t
 refine QZ (x:=((0,[]),false)) [(0,4)] ?_ (YF rfl (Rs.cell rfl rfl Qe4 rfl) (U5 rfl)) rfl ⟨rfl,trivial⟩ rfl rfl
 exact fun h=>absurd h (by decide)
 have m:=aa l
 refine w4 ?_
 refine lc (dG 5 (Qge a C) Qnv)<|lc (xal 6 Qlz Qax)<|w7 ?_
 refine lc (V5 (Qa rfl) (Qa rfl) rfl (by first|omega|(have q:=(VH ‹Xn a›).1;have r:=(VH ‹Xn b›).1;omega)))<|w7 ?_
 refine alL 27 fun _=> ?_
 refine w4 ?_
 refine lp0 b.2.length (fun k=>⟨[(2,lP 0 0),(4,lP 2 0),(5,lB false),(6,lP 6 0),(27,lf (.dat Yv b.2)),(28,lI (b.2.length:Int)),(29,lI (k:Int))],[bx 0 161 [dI a.1,.dat Yv a.2],bx 2 161 [dI 0,.val (.slice none 0 0)],bx 6 161 [dI (a.1+b.1),.ref 7],ar 7 290 Zu (a.2++(b.2.take k).map (Qok a.1))]⟩) ?_ fun k _=> ?_
 exact wp [(7,5)] ⟨rfl,rfl,rfl,(Qg (by simp)),trivial⟩
 refine w4 ?_
 cases n:(decide ((k:Int)<(b.2.length:Int)))
 have o:=ab n
 refine w6 ?_
 refine lc (WV (Up (a.1+b.1,a.2++(b.2.take k).map (Qok a.1))) Qbo ⟨_,_,rfl,(Hd (Qm rfl) ⟨_,_,rfl,.inl rfl,⟨_,_,rfl,.inr ⟨_,_,_,_,rfl,rfl,rfl⟩,rfl⟩⟩),rfl⟩ rfl rfl rfl)<|w2 ?_
 cases B:(decide (Xn (a.1+b.1,a.2++(b.2.take k).map (Qok a.1))))
 refine w2 ?_
 refine lc (Qh QeA rfl (ao.1 rfl) rfl rfl)<|w3 ?_
 refine AC.wk (Qo 8 (p:=2) (off:=1) 290 Zu rfl rfl (Fresh.of rfl) (nlr rfl))<|w_ ?_
 subst t
 refine QZ (x:=((0,[]),false)) [(0,8)] ?_ (YF rfl (Rs.cell rfl rfl Qe4 rfl) (U5 rfl)) rfl ⟨rfl,trivial⟩ rfl rfl
 exact fun h=>absurd h (by decide)
 refine w8 ?_
 subst t
 refine QZ (x:=((a.1+b.1,a.2++(b.2.take k).map (Qok a.1)),true)) [(0,7)] ?_ (YF rfl (Rs.cell rfl rfl Qe4 rfl) (U5 rfl)) rfl ⟨rfl,trivial⟩ rfl rfl
 (intro _;rw[Zy (by omega)];rfl)
 have o:=aa n
 refine w5 ?_
 obtain ⟨f,d⟩:=gx b.2 k
 refine w2 ?_
 refine lc (xal 9 Zu JE)<|w2 ?_
 apply dV (i6 33 _ _ _ _ _ _ [⟨some 39,lR 10,[ar 10 3 .int (f.1.map fun x=>x+a.1)]⟩,io 40 (lP 9 1),io 41 (lf (.dat Qv f.2)),io 42 (lP 0 0),io 43 (lI a.1),⟨some 44,lR 11,[ar 11 3 .int (f.2.map fun x=>x+a.1)]⟩,io 45 (ag [.ref 10,.ref 11]),⟨some 46,lR 12,[ar 12 290 Zu ([(f.1.map fun x=>x+a.1,f.2.map fun x=>x+a.1)]),(10,none),(11,none)]⟩,⟨some 47,lR 13,[ar 13 290 Zu ((a.2++(b.2.take k).map (Qok a.1))++([(f.1.map fun x=>x+a.1,f.2.map fun x=>x+a.1)])),(7,none),(12,none)]⟩,io 48 _,⟨none,lf (.val undef),[bx 6 161 [dI (a.1+b.1),.ref 13]]⟩]) [0,0,3,3,15,15,3,127,127,511,511,3,3,3,0,0,0]
 refine z6 ?_
 refine zz (fun _ c=>ac (dO 10 (JL f.1 a.1 (by have:=((VH ‹Xn b›).2.2 _ (ah d)).1;omega) (fun z g=>by have q:=((VH ‹Xn b›).2.2 _ (ah d)).2.1 z g;have r:=(VH ‹Xn a›).1;omega)) Qf3) rfl)<|z4 ?_
 refine zz (fun _ c=>ac (dO 11 (JL f.2 a.1 (by have:=((VH ‹Xn b›).2.2 _ (ah d)).1;omega) (fun z g=>by have q:=((VH ‹Xn b›).2.2 _ (ah d)).2.2 z g;have r:=(VH ‹Xn a›).1;omega)) Qf3) rfl)<|zz (fun _ c=>ac (Qh QeD ⟨_,_,rfl,(c.w rfl),⟨_,_,rfl,(c.w rfl),rfl⟩⟩ (ao.1 (by simp only[QH,Xh,aV,bo];rw[(c.en 10 rfl),(c.en 11 rfl)];rfl)) rfl rfl) rfl)<|zz (fun _ c=>ac (YK 12 (e:=Zu) Qat Qas JE rfl ⟨_,_,rfl,(c.w rfl),rfl⟩ (ao.1 (by simp only[QH,Xh,aV,bo];rw[(c.en 10 rfl),(c.en 11 rfl)];rfl)) ⟨_,_,_,_,rfl,⟨[.ref 10],[.ref 11],_,_,_,_,rfl,rfl,(.inl ⟨_,rfl,(c.en 10 rfl),rfl⟩),(.inl ⟨_,rfl,(c.en 11 rfl),rfl⟩),rfl⟩,⟨rfl,rfl⟩,rfl⟩ (by decide) rfl rfl (c.fr 12 rfl) (nlr rfl)) rfl)<|zz (fun _ c=>ac (dA 13 QeG (hb:=by (have q:=(VH ‹Xn a›).2.1;have r:=(VH ‹Xn b›).2.1;simp only[ai,aC,au,av,aB];omega))) rfl)<|z_ ?_
 exact zz (fun _ c=>ac (QR (c.v rfl) (c.en 6 rfl) (c.w rfl) (by simp only[QH,Xh,aV,bo];rw[(c.en 13 rfl)];rfl) Qqi rfl) rfl)<|zN
 refine w2 ?_
 refine lc (V5 (Qa rfl) (Qn rfl) rfl (by first|omega|(have q:=(VH ‹Xn a›).1;have r:=(VH ‹Xn b›).1;omega)))<|w_ ?_
 exact Qc<|l0_<|wp [(7,13)] ⟨rfl,rfl,rfl,(Qg (by rw[Qr d];simp[Qok])),trivial⟩
theorem Qch (a:Qma)(b:Qma)[∀s,Decidable (StgOk s)][∀s,Decidable (Xn s)](y:Ty.tot Qeq a≤2000000)(r:Ty.tot Qeq b≤2000000):FC prog 244 [(true,[dI a.1.1,.dat Yv a.1.2,.dat Qj a.2.1,.dat XK a.2.2.1,dS a.2.2.2]),(true,[dI b.1.1,.dat Yv b.1.2,.dat Qj b.2.1,.dat XK b.2.2.1,dS b.2.2.2])] [] 0 (Ex (fun x:ZF×Bool=>x.2=true→x.1=unS a b) (fun x:ZF×Bool=>PV.tup [(true,[dI x.1.1.1,.ref 0,.ref 1,.ref 2,dS x.1.2.2.2]),(false,[dB x.2])]) (fun x:ZF×Bool=>[ar 0 290 Zu x.1.1.2,ar 1 103 QG x.1.2.1,ar 2 183 Q0 x.1.2.2.1])):=by
 obtain ⟨t,J,K⟩:=Qiu y
 obtain ⟨G,H,I⟩:=Qiu r
 refine Ql func244 rfl rfl ntmps244 fun M n L z N B A=>w_ ?_
 refine xbx 0 ?_
 refine xbx 1 ?_
 refine lc (xal 2 Qsr JC)<|w7 ?_
 refine Z7 3 [] (Qcg a.1 b.1 t) Qnk e2_ trivial rfl (fun _=>rfl) (fun _=>⟨(Fresh.of rfl),trivial⟩) (nlr rfl) fun g F=>w3 ?_
 refine lc (xal 4 Qlz Qax)<|w8 ?_
 cases C:(g.2)
 refine w12 ?_
 refine lc (Qh Qb0 rfl (ao.1 rfl) rfl rfl)<|w3 ?_
 refine AC.wk (Qo 5 (p:=2) (off:=1) 290 Zu rfl rfl (Fresh.of rfl) (nlr rfl))<|AC.wk (Qo 6 (p:=2) (off:=2) 103 QG rfl rfl (Fresh.of rfl) (nlr rfl))<|AC.wk (Qo 7 (p:=2) (off:=3) 183 Q0 rfl rfl (Fresh.of rfl) (nlr rfl))<|w_ ?_
 subst n
 refine QZ (x:=(((0,[]),([],([],ByteArray.empty))),false)) [(0,5),(1,6),(2,7)] ?_ (YF rfl (Rs.cell rfl rfl Yh rfl) (U5 rfl)) rfl ⟨rfl,rfl,rfl,trivial⟩ rfl rfl
 exact fun h=>absurd h (by decide)
 refine w_ ?_
 refine lgy rfl rfl (dK (WF a) Je)<|w3 ?_
 cases D:(decide (StgOk a))
 refine w7 ?_
 refine lc (Qh Qb0 rfl (ao.1 rfl) rfl rfl)<|w3 ?_
 refine AC.wk (Qo 8 (p:=2) (off:=1) 290 Zu rfl rfl (Fresh.of rfl) (nlr rfl))<|AC.wk (Qo 9 (p:=2) (off:=2) 103 QG rfl rfl (Fresh.of rfl) (nlr rfl))<|AC.wk (Qo 10 (p:=2) (off:=3) 183 Q0 rfl rfl (Fresh.of rfl) (nlr rfl))<|w_ ?_
 subst n
 refine QZ (x:=(((0,[]),([],([],ByteArray.empty))),false)) [(0,8),(1,9),(2,10)] ?_ (YF rfl (Rs.cell rfl rfl Yh rfl) (U5 rfl)) rfl ⟨rfl,rfl,rfl,trivial⟩ rfl rfl
 exact fun h=>absurd h (by decide)
 refine w_ ?_
 refine lgy rfl rfl (dK (WF b) Je)<|w3 ?_
 cases o:(decide (StgOk b))
 have q:=ab o
 refine w2 ?_
 refine lc (Qh Qb0 rfl (ao.1 rfl) rfl rfl)<|w3 ?_
 refine AC.wk (Qo 11 (p:=2) (off:=1) 290 Zu rfl rfl (Fresh.of rfl) (nlr rfl))<|AC.wk (Qo 12 (p:=2) (off:=2) 103 QG rfl rfl (Fresh.of rfl) (nlr rfl))<|AC.wk (Qo 13 (p:=2) (off:=3) 183 Q0 rfl rfl (Fresh.of rfl) (nlr rfl))<|w_ ?_
 subst n
 refine QZ (x:=(((0,[]),([],([],ByteArray.empty))),false)) [(0,11),(1,12),(2,13)] ?_ (YF rfl (Rs.cell rfl rfl Yh rfl) (U5 rfl)) rfl ⟨rfl,rfl,rfl,trivial⟩ rfl rfl
 exact fun h=>absurd h (by decide)
 have q:=aa o
 refine w2 ?_
 apply dW [io 32 _,⟨some 33,lR 14,[ar 14 103 QG ([])]⟩,io 34 (lP 0 2),io 35 (lf (.dat Qj a.2.1)),⟨some 36,lR 15,[ar 15 103 QG (([])++a.2.1),(14,none)]⟩,io 37 (lP 1 2),io 38 (lf (.dat Qj b.2.1)),⟨some 39,lR 16,[ar 16 103 QG ((([])++a.2.1)++b.2.1),(15,none)]⟩,⟨some 40,lR 17,[ar 17 183 Q0 ([])]⟩,io 41 (lP 0 3),io 42 (lf (.dat XK a.2.2.1)),⟨some 43,lR 18,[ar 18 183 Q0 (([])++a.2.2.1),(17,none)]⟩,io 44 (lP 0 4),io 45 (lf (dS a.2.2.2)),io 46 (lP 1 4),io 47 (lf (dS b.2.2.2)),io 48 (lf (dS (a.2.2.2++b.2.2.2))),io 49 (ag [dI g.1.1,.ref 3,.ref 16,.ref 18,dS (a.2.2.2++b.2.2.2)]),⟨some 8,lP 19 0,[bx 19 164 [dI 0,.val (.slice none 0 0),.val (.slice none 0 0),.val (.slice none 0 0),dS ByteArray.empty]]⟩,⟨none,lf (.val undef),[bx 19 164 [dI g.1.1,.ref 3,.ref 16,.ref 18,dS (a.2.2.2++b.2.2.2)]]⟩] [0,1,3,3,1,31,31,1,255,511,511,1,4095,4095,16383,16383,4095,0,262143,0]
 refine z_ ?_
 refine zz (fun _ c=>ac (dBs 14 (e:=QG) WO) rfl)<|z2 ?_
 refine zz (fun _ c=>ac (Zg 15 (c.v rfl) (c.en 14 rfl) (Evl.rep (c.v rfl)) rfl QdH K7 (by (simp only[ai,aC,au,av,aB];omega)) rfl (c.fr 15 rfl) (nlr rfl)) rfl)<|z2 ?_
 refine zz (fun _ c=>ac (Zg 16 (c.v rfl) (c.en 15 rfl) (Evl.rep (c.v rfl)) rfl QdH K7 (by (simp only[ai,aC,au,av,aB];omega)) rfl (c.fr 16 rfl) (nlr rfl)) rfl)<|zz (fun _ c=>ac (dBs 17 (e:=Q0) Vh) rfl)<|z2 ?_
 refine zz (fun _ c=>ac (Zg 18 (c.v rfl) (c.en 17 rfl) (Evl.rep (c.v rfl)) rfl QyQ Qca (by (simp only[ai,aC,au,av,aB];omega)) rfl (c.fr 18 rfl) (nlr rfl)) rfl)<|z4 ?_
 exact zz (fun _ c=>ac (QX (c.v rfl) (c.v rfl) rfl (by (have O:=Qiv y;have P:=Qiv r;omega))) rfl)<|zz (fun _ c=>ac (Qh Qb0 ⟨_,_,rfl,(c.w rfl),⟨_,_,rfl,(c.w rfl),⟨_,_,rfl,(c.w rfl),⟨_,_,rfl,(c.w rfl),rfl⟩⟩⟩⟩ (ao.1 (by show ((QH _ [dI g.1.1,.ref 3]&&(QH _ [.ref 16]&&(QH _ [.ref 18]&&(QH _ [dS (a.2.2.2++b.2.2.2)]&&true)))))=true;simp only[QH,Xh,aV,bo];rw[(c.en 3 rfl),(c.en 16 rfl),(c.en 18 rfl)];rfl)) rfl rfl) rfl)<|zz (fun _ c=>ac (Qa1 19 Qsr JC rfl rfl (c.fr 19 rfl) (nlr rfl)) rfl)<|zz (fun _ c=>ac (QR (c.v rfl) (c.en 19 rfl) (c.w rfl) (by show QH _ [dI g.1.1,.ref 3,.ref 16,.ref 18,dS (a.2.2.2++b.2.2.2)]=true;simp only[QH,Xh,aV,bo];rw[(c.en 3 rfl),(c.en 16 rfl),(c.en 18 rfl)];rfl) Yh rfl) rfl)<|zN
 refine w8 ?_
 refine lp0 b.2.2.1.length (fun k=>⟨[(2,lP 0 0),(4,lP 2 0),(5,lB false),(8,lP 19 0),(51,lf (.dat XK b.2.2.1)),(52,lI (b.2.2.1.length:Int)),(53,lI (k:Int))],[bx 0 164 [dI a.1.1,.dat Yv a.1.2,.dat Qj a.2.1,.dat XK a.2.2.1,dS a.2.2.2],bx 2 164 [dI 0,.val (.slice none 0 0),.val (.slice none 0 0),.val (.slice none 0 0),dS ByteArray.empty],ar 3 290 Zu g.1.2,ar 16 103 QG ((([])++a.2.1)++b.2.1),bx 19 164 [dI g.1.1,.ref 3,.ref 16,.ref 20,dS (a.2.2.2++b.2.2.2)],ar 20 183 Q0 (a.2.2.1++(b.2.2.1.take k).map (unL a.2.1.length))]⟩) ?_ fun k _=> ?_
 exact wp [(20,18)] ⟨rfl,rfl,rfl,rfl,rfl,(Qg (by simp)),trivial⟩
 refine w4 ?_
 cases i:(decide ((k:Int)<(b.2.2.1.length:Int)))
 have l:=ab i
 refine w6 ?_
 refine lc (WV (WF (g.1,(([])++a.2.1)++b.2.1,a.2.2.1++(b.2.2.1.take k).map (unL a.2.1.length),a.2.2.2++b.2.2.2)) Je ⟨_,_,rfl,(Hd (Qm rfl) ⟨_,_,rfl,.inl rfl,⟨_,_,rfl,.inr ⟨_,_,_,_,rfl,rfl,rfl⟩,⟨_,_,rfl,.inr ⟨_,_,_,_,rfl,rfl,rfl⟩,⟨_,_,rfl,.inr ⟨_,_,_,_,rfl,rfl,rfl⟩,⟨_,_,rfl,.inl rfl,rfl⟩⟩⟩⟩⟩),rfl⟩ rfl rfl rfl)<|w2 ?_
 cases u:(decide (StgOk (g.1,(([])++a.2.1)++b.2.1,a.2.2.1++(b.2.2.1.take k).map (unL a.2.1.length),a.2.2.2++b.2.2.2)))
 refine w2 ?_
 refine lc (Qh Qb0 rfl (ao.1 rfl) rfl rfl)<|w3 ?_
 refine AC.wk (Qo 21 (p:=2) (off:=1) 290 Zu rfl rfl (Fresh.of rfl) (nlr rfl))<|AC.wk (Qo 22 (p:=2) (off:=2) 103 QG rfl rfl (Fresh.of rfl) (nlr rfl))<|AC.wk (Qo 23 (p:=2) (off:=3) 183 Q0 rfl rfl (Fresh.of rfl) (nlr rfl))<|w_ ?_
 subst n
 refine QZ (x:=(((0,[]),([],([],ByteArray.empty))),false)) [(0,21),(1,22),(2,23)] ?_ (YF rfl (Rs.cell rfl rfl Yh rfl) (U5 rfl)) rfl ⟨rfl,rfl,rfl,trivial⟩ rfl rfl
 exact fun h=>absurd h (by decide)
 refine w8 ?_
 subst n
 refine QZ (x:=(((g.1.1,g.1.2),((([])++a.2.1)++b.2.1,(a.2.2.1++(b.2.2.1.take k).map (unL a.2.1.length),a.2.2.2++b.2.2.2))),true)) [(0,3),(1,16),(2,20)] ?_ (YF rfl (Rs.cell rfl rfl Yh rfl) (U5 rfl)) rfl ⟨rfl,rfl,rfl,trivial⟩ rfl rfl
 ·(intro _;rw[Zy (by omega)];simp_all [unS];done)
 have l:=aa i
 refine w5 ?_
 obtain ⟨f,d⟩:=gx b.2.2.1 k
 have E:=QDt (StgOk.labs ‹StgOk b› _ (ah d))
 refine w2 ?_
 refine lc (xal 24 Q0 Vh)<|w6 ?_
 refine alI 58 fun _=> ?_
 refine w2 ?_
 cases j:(decide (0≤f.1))
 have m:=ab j
 refine w6 ?_
 refine lc (dBs 25 (e:=Q0) Vh (hab:=by exact ⟨_,_,_,_,rfl,⟨[dI f.1],[dB f.2],_,_,_,_,rfl,rfl,⟨rfl,rfl⟩,⟨rfl,rfl⟩,rfl⟩,⟨rfl,rfl⟩,rfl⟩))<|lc (dA 26 Qca (hb:=by (simp only[ai,aC,au,av,aB];omega)))<|w2 ?_
 refine Qc<|w4 ?_
 exact Qc<|l0_<|wp [(20,26)] ⟨rfl,rfl,rfl,rfl,rfl,(Qg (by rw[Qr d];simp[unL, *])),trivial⟩
 have m:=aa j
 refine w15 ?_
 refine lc (dBs 27 (e:=Q0) Vh (hab:=by exact ⟨_,_,_,_,rfl,⟨[dI (f.1+(a.2.1.length:Int))],[dB f.2],_,_,_,_,rfl,rfl,⟨rfl,rfl⟩,⟨rfl,rfl⟩,rfl⟩,⟨rfl,rfl⟩,rfl⟩))<|lc (dA 28 Qca (hb:=by (simp only[ai,aC,au,av,aB];omega)))<|w2 ?_
 refine Qc<|w4 ?_
 exact Qc<|l0_<|wp [(20,28)] ⟨rfl,rfl,rfl,rfl,rfl,(Qg (by rw[Qr d];simp[unL, *])),trivial⟩
section
variable {l:List BA}{x:BA}{j kd:Int}{i k:Nat}{g:List Qs}
def Qp7:∀(l:List BA) (j:Int),sgA (l++[x]) j=sgA l j++sgN x (j+(l.length:Int)) x.size
 | [],j=>by simp[sgA]
 | y::l,j=>by
  rw[cI,sgA,sgA,Qp7 l (j+1),aM,av]
  congr 3
  omega
def QvD (a:l[k]? =some x):sgA (l.take k) 1++sgN x ((k:Int)+1) x.size=sgA (l.take (k+1)) 1:=by
 have b:=(ae.1 a).1
 rw[Qr a,Qp7,au,show (1:Int)+((min k l.length:Nat):Int)=(k:Int)+1 by omega]
def QvE:(g++sgN x kd i)++[(x.extract ((i:Nat):Int).toNat ((i:Int)+1).toNat,kd)]=g++sgN x kd (i+1):=by
 unfold sgN
 rw[bk,aT,aM,bW,show ((i:Int)+1).toNat=i+1 by omega];rfl
end
def QK (f:BA)(d:BA)(a:BA)(c:BA)(Y:(ZS c 32).all okA=true)(hs:c.size≤900∧f.size≤100∧d.size≤100∧a.size≤100):FC prog 118 [(false,[dS f]),(false,[dS d]),(false,[dS a]),(false,[dS c])] [] 0 (Is (ag [dI (((Qu f d a c).1).1),.ref 0,.ref 1,.ref 2,dS ((Qu f d a c).2.2.2)]) [ar 0 290 Zu (((Qu f d a c).1).2),ar 1 103 QG ((Qu f d a c).2.1),ar 2 183 Q0 ((Qu f d a c).2.2.1)]):=by
 have a4:=Qr6 (s:=c) (b:=32)
 have V:([f,d,a]:List BA).length=3:=rfl
 refine Ql func118 rfl rfl ntmps118 fun O_ X a6 Q X_ U T=>w_ ?_
 refine lc (xal 0 Qsr JC)<|w2 ?_
 refine lc (Qh QwN rfl (ao.1 rfl) rfl rfl)<|xbx 1 ?_
 refine w7 ?_
 refine lc (dBs 2 (e:= .str) Wd)<|w4 ?_
 refine AC.wk (Qo 3 (p:=1) (off:=2) 103 QG rfl rfl (Fresh.of rfl) (nlr rfl))<|Qy (fun A B=>∃(k:Nat) (t:List (BA×Int)),k≤([f,d,a]).length∧A=([f,d,a]).length - k∧(t=sgA (([f,d,a]:List BA).take k) 1)∧(t.length≤100*k)∧B=⟨[(3,lf (dS c)),(8,lP 0 0),(9,lP 1 0),(20,lR 2),(21,lI (([f,d,a]).length:Int)),(22,lI (k:Int))],[bx 0 164 [dI 0,.val (.slice none 0 0),.val (.slice none 0 0),.val (.slice none 0 0),dS ByteArray.empty],bx 1 242 [dI 0,.val (.slice none 0 0),.ref 4,.val (.slice none 0 0),dS ByteArray.empty,.val (.slice none 0 0),.val (.slice none 0 0)],ar 2 9 .str ([f,d,a]),ar 4 103 QG t]⟩) ⟨0,([]:(Qj:Ty).Den),aL _,rfl,rfl,(aL _),rfl⟩ ?_ ?_
 exact wp [(4,3)] ⟨rfl,rfl,rfl,(Qg (by first|rfl|simp)),trivial⟩
 rintro A B ⟨k,t,Z,a1,F,hL,rfl⟩
 refine w4 ?_
 cases H:(decide ((k:Int)<(([f,d,a]).length:Int)))
 have I:=ab H
 refine w6 ?_
 refine lc (Kg (VG c 32 (by omega)).frozen Qbg ⟨_,_,rfl,(Qm rfl),⟨_,_,rfl,(Evl.ev (QS 32 rfl)),rfl⟩⟩ rfl rfl)<|alL 54 fun _=> ?_
 refine w4 ?_
 refine AC.wk (Qo 5 (p:=1) (off:=1) 290 Zu rfl rfl (Fresh.of rfl) (nlr rfl))<|AC.wk (Qo 6 (p:=1) (off:=3) 183 Q0 rfl rfl (Fresh.of rfl) (nlr rfl))<|AC.wk (Qo 7 (p:=1) (off:=5) 9 .str rfl rfl (Fresh.of rfl) (nlr rfl))<|AC.wk (Qo 8 (p:=1) (off:=6) 9 .str rfl rfl (Fresh.of rfl) (nlr rfl))<|Qy (fun A B=>∃(m:Nat) (n:((Int×(List (List Int×List Int)))×(List (BA×Int))×(List (Int×Bool))×BA)×List BA×List BA),m≤(ZS c 32).length∧A=(ZS c 32).length - m∧(n=((ZS c 32).take m).foldl arV (((0,[]),t,[],ByteArray.empty),[],[]))∧(DBJ n m (2*m) (2*m))∧B=⟨[(8,lP 0 0),(9,lP 1 0),(54,lf (.dat Qd (ZS c 32))),(55,lI ((ZS c 32).length:Int)),(56,lI (m:Int))],[bx 0 164 [dI 0,.val (.slice none 0 0),.val (.slice none 0 0),.val (.slice none 0 0),dS ByteArray.empty],bx 1 242 [dI n.1.1.1,.ref 9,.ref 10,.ref 11,dS n.1.2.2.2,.ref 12,.ref 13],ar 9 290 Zu n.1.1.2,ar 10 103 QG n.1.2.1,ar 11 183 Q0 n.1.2.2.1,ar 12 9 .str n.2.1,ar 13 9 .str n.2.2]⟩) ⟨0,(((0,([]:(Yv:Ty).Den)),t,([]:(XK:Ty).Den),ByteArray.empty),([]:(Qd:Ty).Den),([]:(Qd:Ty).Den)),aL _,rfl,rfl,(DBJ.zero _),rfl⟩ ?_ ?_
 exact wp [(9,5),(10,4),(11,6),(12,7),(13,8)] ⟨rfl,rfl,(Qg (by first|rfl|simp)),(Qg (by first|rfl|simp)),(Qg (by first|rfl|simp)),(Qg (by first|rfl|simp)),(Qg (by first|rfl|simp)),trivial⟩
 rintro A B ⟨m,n,a0,a2,E,N,rfl⟩
 refine w4 ?_
 cases J:(decide ((m:Int)<((ZS c 32).length:Int)))
 have K:=ab J
 refine w11 ?_
 have R:(n.1.1.1:Int)=(((Qu f d a c).1).1):=by
  (rw[E,Zy (by omega),F,Zy (by omega)];rfl)
 have S:(n.1.2.2.2:BA)=((Qu f d a c).2.2.2):=by
  (rw[E,Zy (by omega),F,Zy (by omega)];rfl)
 exact fi_ [(0,9),(1,10),(2,11)] X ⟨(Qg (by (rw[E,Zy (by omega),F,Zy (by omega)];rfl))),(Qg (by (rw[E,Zy (by omega),F,Zy (by omega)];rfl))),(Qg (by (rw[E,Zy (by omega),F,Zy (by omega)];rfl))),trivial⟩ (h0:=by rw[R,S] <;> rfl)
 have K:=aa J
 refine w5 ?_
 obtain ⟨r,y⟩:=gx (ZS c 32) m
 have L:=y
 have a5:=QbK (ah y)
 refine w7 ?_
 refine lc (dP 14 [(0,1),(1,10),(2,9),(3,11),(4,12),(5,13)] (Qel n r m N (by omega) (ao.1 Y _ (ah L)) (by omega)) QmP)<|Qc<|w4 ?_
 exact Qc<|Zb ⟨m+1,((((arV n r).1.1.1,(arV n r).1.1.2),(arV n r).1.2.1,(arV n r).1.2.2.1,(arV n r).1.2.2.2),(arV n r).2.1,(arV n r).2.2),by omega,rfl,(by rw[E,Qr L,bN];rfl),(N.ar_ (text:=r)),rfl⟩ (by omega)<|wp [(9,16),(11,17),(12,18),(13,19)] ⟨rfl,rfl,(Qg (by first|rfl|simp)),(Qg (by first|rfl|simp)),(Qg (by first|rfl|simp)),(Qg (by first|rfl|simp)),(Qg (by first|rfl|simp)),trivial⟩
 have I:=aa H
 refine w7 ?_
 obtain ⟨q,z⟩:=gx ([f,d,a]) k
 have M:=z
 have a3:q.size≤100:=by have o:=ah z;simp only[aK,bO,or_false] at o;rcases o with rfl|rfl|rfl <;> omega
 refine w8 ?_
 refine Qy (fun A B=>∃(i:Nat) (C:List (BA×Int)),i≤q.size∧A=q.size - i∧(C=t++sgN q ((k:Int)+1) i)∧(C.length≤100*k+i)∧B=⟨[(3,lf (dS c)),(8,lP 0 0),(9,lP 1 0),(10,lI (k:Int)),(11,lf (dS q)),(12,lI (i:Int)),(20,lR 2),(21,lI (([f,d,a]).length:Int)),(22,lI (k:Int))],[bx 0 164 [dI 0,.val (.slice none 0 0),.val (.slice none 0 0),.val (.slice none 0 0),dS ByteArray.empty],bx 1 242 [dI 0,.val (.slice none 0 0),.ref 20,.val (.slice none 0 0),dS ByteArray.empty,.val (.slice none 0 0),.val (.slice none 0 0)],ar 2 9 .str ([f,d,a]),ar 20 103 QG C]⟩) ⟨0,t,aL _,rfl,(by simp[sgN]),(by omega),rfl⟩ ?_ ?_
 exact wo [(20,4)]
 rintro A B ⟨i,C,O,P,G,W,rfl⟩
 refine w7 ?_
 cases u:(decide ((i:Int)<(q.size:Int)))
 have D:=ab u
 refine w6 ?_
 exact Qc<|Zb ⟨k+1,C,by omega,rfl,(by rw[G,F,show i=q.size by omega];exact QvD M),(by omega),rfl⟩ (by omega)<|wo [(4,20)]
 have D:=aa u
 refine w4 ?_
 apply dV (i9 33 _ _ _ _ _ _ _ _ _ (io 42 _::io 43 (lf (dS (q.extract ((i:Int)).toNat ((i:Int)+1).toNat)))::i2 44 _ _ (io 46 (ag [dS (q.extract ((i:Int)).toNat ((i:Int)+1).toNat),dI ((k:Int)+1)])::⟨some 47,lR 21,[ar 21 103 QG ([(q.extract ((i:Int)).toNat ((i:Int)+1).toNat,(k:Int)+1)])]⟩::⟨some 48,lR 22,[ar 22 103 QG (C++([(q.extract ((i:Int)).toNat ((i:Int)+1).toNat,(k:Int)+1)])),(20,none),(21,none)]⟩::i3 49 _ _ _ [⟨none,lf (.val undef),[bx 1 242 [dI 0,.val (.slice none 0 0),.ref 22,.val (.slice none 0 0),dS ByteArray.empty,.val (.slice none 0 0),.val (.slice none 0 0)]]⟩]))) [0,1,1,1,1,1,63,127,255,255,63,2047,2047,63,63,1,0,0,0,0]
 refine z10 ?_
 refine zz (fun _ o=>ac (show Does _ _ _ _ (St.put _ 43 (lf (dS (q.extract ((i:Int)).toNat ((i:Int)+1).toNat)))) from QT (l:=(some (i:Int))) (h:=(some ((i:Int)+1))) (o.v rfl) (by exact (o.v rfl)) (by exact (o.v rfl)) Yd rfl (by first|omega|(simp only[aq,ap];omega)) (by first|omega|(simp only[aq,ap];omega)) (by first|omega|(simp only[aq,ap];omega))) rfl)<|z2 ?_
 refine zz (fun _ o=>ac (Qh QwL ⟨_,_,rfl,(o.w rfl),⟨_,_,rfl,(o.w rfl),rfl⟩⟩ (ao.1 rfl) rfl rfl) rfl)<|zz (fun _ o=>ac (dBs 21 (e:=QG) WO (hab:=by exact ⟨_,_,_,_,rfl,⟨[dS (q.extract ((i:Int)).toNat ((i:Int)+1).toNat)],[dI ((k:Int)+1)],_,_,_,_,rfl,rfl,⟨rfl,rfl⟩,⟨rfl,rfl⟩,rfl⟩,⟨rfl,rfl⟩,rfl⟩)) rfl)<|zz (fun _ o=>ac (dA 22 K7 (hb:=by first|omega|(simp only[av,aB];omega))) rfl)<|z3 ?_
 exact zz (fun _ o=>ac (QR (o.v rfl) (o.en 1 rfl) (o.w rfl) (by simp only[QH,Xh,aV,bo];rw[(o.en 22 rfl)];rfl) QB0 rfl) rfl)<|zN
 refine w5 ?_
 exact Qc<|Zb ⟨i+1,(C++([(q.extract ((i:Int)).toNat ((i:Int)+1).toNat,(k:Int)+1)])),by omega,rfl,(by rw[G];exact QvE),(by simp only[ai,av,aB];omega),rfl⟩ (by omega)<|wp [(20,22)] ⟨rfl,rfl,rfl,(Qg (by first|rfl|simp)),trivial⟩
def tx0:BA:=⟨#[97,98]⟩
def tx1:BA:=⟨#[99]⟩
def tx2:BA:=⟨#[]⟩
def tx3:BA:=⟨#[97,43,62,99,43,32,98,43,62,99,43,32,99,43,62,97,45,32,99,43,62,98,45,32,97,45,62,99,45,32,98,45,62,99,45,32,42,99,45,62,97,43,32,42,99,45,62,98,43]⟩
def tx4:BA:=⟨#[97]⟩
def tx5:BA:=⟨#[98]⟩
def tx6:BA:=⟨#[97,43,62,98,43,32,98,43,62,97,45,32,97,45,62,98,45,32,42,98,45,62,97,43]⟩
def tx7:BA:=⟨#[114]⟩
def tx8:BA:=⟨#[120,121]⟩
def tx9:BA:=⟨#[114,43,62,120,43,32,114,43,62,121,43,32,120,43,62,114,45,32,121,43,62,114,45,32,114,45,62,120,45,32,114,45,62,121,45,32,42,120,45,62,114,43,32,42,121,45,62,114,43]⟩
def Qsj:BA:=⟨#[97,100]⟩
def H5:BA:=⟨#[98,99]⟩
def Qsk:BA:=⟨#[97,43,62,98,43,32,98,43,62,100,43,32,100,43,62,99,43,32,99,43,62,97,45,32,97,45,62,98,45,32,98,45,62,100,45,32,100,45,62,99,45,32,42,99,45,62,97,43]⟩
def Qsl:BA:=⟨#[120]⟩
def Qsm:BA:=⟨#[97,43,62,120,43,32,120,43,62,98,43,32,98,43,62,97,45,32,97,45,62,120,45,32,120,45,62,98,45,32,42,98,45,62,97,43]⟩
def Qsn:BA:=⟨#[42,95,112,62,97,43,32,95,112,62,98,43,32,97,43,62,99,43,47,49,32,99,43,47,49,62,97,45,32,97,45,62,99,45,47,49,32,99,45,47,49,62,95,112,32,98,43,62,99,43,47,50,32,99,43,47,50,62,98,45,32,98,45,62,99,45,47,50,32,99,45,47,50,62,95,112]⟩
def Qso:BA:=⟨#[97,43,62,126,32,126,62,98,43,32,98,43,62,97,45,32,97,45,62,98,45,32,42,98,45,62,97,43]⟩
def Qg5:BA:=⟨#[42,121,45,62,114,43,32,114,43,62,120,43,32,120,43,62,120,45,32,120,45,62,121,43,32,121,43,62,114,45,32,114,45,62,121,45]⟩
def Qg6:BA:=⟨#[42,97,45,62,97,43,32,97,43,62,95,112,32,95,112,62,98,43,32,95,112,62,99,43,32,98,43,62,98,45,32,99,43,62,99,45,32,98,45,62,95,113,32,99,45,62,95,113,32,95,113,62,97,45]⟩
def Qsp:BA:=⟨#[97,43,47,49,62,98,43,32,98,43,62,97,43,47,50,32,97,43,47,50,62,98,45,32,42,98,45,62,97,43,47,49]⟩
def QEB:BA:=⟨#[112]⟩
def QEC:BA:=⟨#[113]⟩
def QED:BA:=⟨#[112,43,62,113,43,32,113,43,62,112,45,32,112,45,62,113,45,32,42,113,45,62,112,43]⟩
def Qsq:BA:=⟨#[42,95,112,62,97,43,32,97,43,62,98,43,32,98,43,62,95,113]⟩
def Xr (code:List UInt8)(at_:Int)(sd:Int)(n:0≤at_∧at_≤999999000):FC prog 245 [(false,[.ptr 0 0])] [bx 0 86 [.dat QP code,dI at_,.val (.int .u64 sd)]] 1 (Ex (fun x:ZF×Int×Int=>Ty.tot Qeq x.1≤1000∧(1≤x.1.2.1.length∧1≤x.1.2.2.1.length)∧(at_≤x.2.1∧x.2.1≤at_+10)) (fun x:ZF×Int×Int=>ag [dI x.1.1.1,.ref 1,.ref 2,.ref 3,dS x.1.2.2.2]) (fun x:ZF×Int×Int=>[bx 0 86 [.dat QP code,dI x.2.1,.val (.int .u64 x.2.2)],ar 1 290 Zu x.1.1.2,ar 2 103 QG x.1.2.1,ar 3 183 Q0 x.1.2.2.1])):=by
 refine Ql func245 rfl rfl ntmps245 fun h a f b m d c=>w_ ?_
 refine lc (xal 1 Qsr JC)<|w4 ?_
 have e:=ZQ code at_ sd 7
 refine lc (dP 2 [] (QF code at_ sd 7 (by omega)) Zs)<|w6 ?_
 refine cd_ (fun _ _=> ?_) fun _ _=> ?_
 refine w4 ?_
 refine cd_ (fun _ _=> ?_) fun _ _=> ?_
 refine w4 ?_
 refine cd_ (fun _ _=> ?_) fun _ _=> ?_
 refine w4 ?_
 refine cd_ (fun _ _=> ?_) fun _ _=> ?_
 refine w4 ?_
 refine cd_ (fun _ _=> ?_) fun _ _=> ?_
 refine w4 ?_
 refine cd_ (fun _ _=> ?_) fun _ _=> ?_
 refine w3 ?_
 refine lc (dG 3 (QK tx4 tx5 tx2 Qso (by decide+kernel) (by decide+kernel)) Zi)<|w3 ?_
 subst a
 refine QZ (x:=(((((Qu tx4 tx5 tx2 Qso).1).1,((Qu tx4 tx5 tx2 Qso).1).2),((Qu tx4 tx5 tx2 Qso).2.1,((Qu tx4 tx5 tx2 Qso).2.2.1,(Qu tx4 tx5 tx2 Qso).2.2.2))),((pkA 7 at_),(pkS code at_ sd 7)))) [(0,0),(1,3),(2,4),(3,5)] ?_ (Res.one rfl (Rs.cell rfl rfl Yh rfl)) rfl ⟨rfl,rfl,rfl,rfl,trivial⟩ rfl rfl
 first|(dsimp only;exact ⟨by decide+kernel,⟨by decide+kernel,by decide+kernel⟩,by omega⟩)
 refine w_ ?_
 refine lc (dG 6 (QK tx0 tx1 tx2 Qsn (by decide+kernel) (by decide+kernel)) Zi)<|w3 ?_
 subst a
 refine QZ (x:=(((((Qu tx0 tx1 tx2 Qsn).1).1,((Qu tx0 tx1 tx2 Qsn).1).2),((Qu tx0 tx1 tx2 Qsn).2.1,((Qu tx0 tx1 tx2 Qsn).2.2.1,(Qu tx0 tx1 tx2 Qsn).2.2.2))),((pkA 7 at_),(pkS code at_ sd 7)))) [(0,0),(1,6),(2,7),(3,8)] ?_ (Res.one rfl (Rs.cell rfl rfl Yh rfl)) rfl ⟨rfl,rfl,rfl,rfl,trivial⟩ rfl rfl
 first|(dsimp only;exact ⟨by decide+kernel,⟨by decide+kernel,by decide+kernel⟩,by omega⟩)
 refine w_ ?_
 refine lc (dG 9 (QK tx4 tx5 Qsl Qsm (by decide+kernel) (by decide+kernel)) Zi)<|w3 ?_
 subst a
 refine QZ (x:=(((((Qu tx4 tx5 Qsl Qsm).1).1,((Qu tx4 tx5 Qsl Qsm).1).2),((Qu tx4 tx5 Qsl Qsm).2.1,((Qu tx4 tx5 Qsl Qsm).2.2.1,(Qu tx4 tx5 Qsl Qsm).2.2.2))),((pkA 7 at_),(pkS code at_ sd 7)))) [(0,0),(1,9),(2,10),(3,11)] ?_ (Res.one rfl (Rs.cell rfl rfl Yh rfl)) rfl ⟨rfl,rfl,rfl,rfl,trivial⟩ rfl rfl
 first|(dsimp only;exact ⟨by decide+kernel,⟨by decide+kernel,by decide+kernel⟩,by omega⟩)
 refine w_ ?_
 refine lc (dG 12 (QK Qsj H5 tx2 Qsk (by decide+kernel) (by decide+kernel)) Zi)<|w3 ?_
 subst a
 refine QZ (x:=(((((Qu Qsj H5 tx2 Qsk).1).1,((Qu Qsj H5 tx2 Qsk).1).2),((Qu Qsj H5 tx2 Qsk).2.1,((Qu Qsj H5 tx2 Qsk).2.2.1,(Qu Qsj H5 tx2 Qsk).2.2.2))),((pkA 7 at_),(pkS code at_ sd 7)))) [(0,0),(1,12),(2,13),(3,14)] ?_ (Res.one rfl (Rs.cell rfl rfl Yh rfl)) rfl ⟨rfl,rfl,rfl,rfl,trivial⟩ rfl rfl
 first|(dsimp only;exact ⟨by decide+kernel,⟨by decide+kernel,by decide+kernel⟩,by omega⟩)
 refine w_ ?_
 refine lc (dG 15 (QK tx7 tx8 tx2 tx9 (by decide+kernel) (by decide+kernel)) Zi)<|w3 ?_
 subst a
 refine QZ (x:=(((((Qu tx7 tx8 tx2 tx9).1).1,((Qu tx7 tx8 tx2 tx9).1).2),((Qu tx7 tx8 tx2 tx9).2.1,((Qu tx7 tx8 tx2 tx9).2.2.1,(Qu tx7 tx8 tx2 tx9).2.2.2))),((pkA 7 at_),(pkS code at_ sd 7)))) [(0,0),(1,15),(2,16),(3,17)] ?_ (Res.one rfl (Rs.cell rfl rfl Yh rfl)) rfl ⟨rfl,rfl,rfl,rfl,trivial⟩ rfl rfl
 first|(dsimp only;exact ⟨by decide+kernel,⟨by decide+kernel,by decide+kernel⟩,by omega⟩)
 refine w_ ?_
 refine lc (dG 18 (QK tx4 tx5 tx2 tx6 (by decide+kernel) (by decide+kernel)) Zi)<|w3 ?_
 subst a
 refine QZ (x:=(((((Qu tx4 tx5 tx2 tx6).1).1,((Qu tx4 tx5 tx2 tx6).1).2),((Qu tx4 tx5 tx2 tx6).2.1,((Qu tx4 tx5 tx2 tx6).2.2.1,(Qu tx4 tx5 tx2 tx6).2.2.2))),((pkA 7 at_),(pkS code at_ sd 7)))) [(0,0),(1,18),(2,19),(3,20)] ?_ (Res.one rfl (Rs.cell rfl rfl Yh rfl)) rfl ⟨rfl,rfl,rfl,rfl,trivial⟩ rfl rfl
 first|(dsimp only;exact ⟨by decide+kernel,⟨by decide+kernel,by decide+kernel⟩,by omega⟩)
 refine w_ ?_
 refine lc (dG 21 (QK tx0 tx1 tx2 tx3 (by decide+kernel) (by decide+kernel)) Zi)<|w3 ?_
 subst a
 refine QZ (x:=(((((Qu tx0 tx1 tx2 tx3).1).1,((Qu tx0 tx1 tx2 tx3).1).2),((Qu tx0 tx1 tx2 tx3).2.1,((Qu tx0 tx1 tx2 tx3).2.2.1,(Qu tx0 tx1 tx2 tx3).2.2.2))),((pkA 7 at_),(pkS code at_ sd 7)))) [(0,0),(1,21),(2,22),(3,23)] ?_ (Res.one rfl (Rs.cell rfl rfl Yh rfl)) rfl ⟨rfl,rfl,rfl,rfl,trivial⟩ rfl rfl
 first|(dsimp only;exact ⟨by decide+kernel,⟨by decide+kernel,by decide+kernel⟩,by omega⟩)
def Qcj (code:List UInt8)(at_:Int)(sd:Int)[∀s,Decidable (StgOk s)][∀s,Decidable (Xn s)](w:0≤at_∧at_≤999998900):FC prog 170 [(false,[.ptr 0 0])] [bx 0 86 [.dat QP code,dI at_,.val (.int .u64 sd)]] 1 (Ex (fun x:ZF×Int×Int=>Ty.tot Qeq x.1≤1000∧(1≤x.1.2.1.length∧1≤x.1.2.2.1.length)∧(at_≤x.2.1∧x.2.1≤at_+20)) (fun x:ZF×Int×Int=>ag [dI x.1.1.1,.ref 1,.ref 2,.ref 3,dS x.1.2.2.2]) (fun x:ZF×Int×Int=>[bx 0 86 [.dat QP code,dI x.2.1,.val (.int .u64 x.2.2)],ar 1 290 Zu x.1.1.2,ar 2 103 QG x.1.2.1,ar 3 183 Q0 x.1.2.2.1])):=by
 refine Ql func170 rfl rfl ntmps170 fun u b t n v p o=>w_ ?_
 refine lc (xal 1 Qsr JC)<|w4 ?_
 have q:=ZQ code at_ sd 9
 refine lc (dP 2 [] (QF code at_ sd 9 (by omega)) Zs)<|w6 ?_
 refine cd_ (fun _ _=> ?_) fun _ _=> ?_
 refine w4 ?_
 refine cd_ (fun _ _=> ?_) fun _ _=> ?_
 refine w4 ?_
 refine cd_ (fun _ _=> ?_) fun _ _=> ?_
 refine w4 ?_
 refine cd_ (fun _ _=> ?_) fun _ _=> ?_
 refine w4 ?_
 refine cd_ (fun _ _=> ?_) fun _ _=> ?_
 refine w4 ?_
 refine Z7 3 [(0,0)] (Xr code (pkA 9 at_) (pkS code at_ sd 9) (by omega)) Qbj e1_ ⟨rfl,trivial⟩ rfl (fun _=>rfl) (fun _=>⟨trivial,(Fresh.of rfl),(Fresh.of rfl),(Fresh.of rfl),trivial⟩) (nlr rfl) fun d r=>w3 ?_
 subst b
 refine QZ (x:=(((d.1.1.1,d.1.1.2),(d.1.2.1,(d.1.2.2.1,d.1.2.2.2))),(d.2.1,d.2.2))) [(0,0),(1,4),(2,5),(3,6)] ?_ (Res.one rfl (Rs.cell rfl rfl Yh rfl)) rfl ⟨rfl,rfl,rfl,rfl,trivial⟩ rfl rfl
 (have c:=‹Ty.tot Qeq _≤1000∧_›;dsimp only;exact ⟨c.1,c.2.1,by omega⟩)
 refine w_ ?_
 refine lc (dG 7 (QK tx4 tx5 tx2 Qsq (by decide+kernel) (by decide+kernel)) Zi)<|w3 ?_
 subst b
 refine QZ (x:=(((((Qu tx4 tx5 tx2 Qsq).1).1,((Qu tx4 tx5 tx2 Qsq).1).2),((Qu tx4 tx5 tx2 Qsq).2.1,((Qu tx4 tx5 tx2 Qsq).2.2.1,(Qu tx4 tx5 tx2 Qsq).2.2.2))),((pkA 9 at_),(pkS code at_ sd 9)))) [(0,0),(1,7),(2,8),(3,9)] ?_ (Res.one rfl (Rs.cell rfl rfl Yh rfl)) rfl ⟨rfl,rfl,rfl,rfl,trivial⟩ rfl rfl
 (dsimp only;exact ⟨by decide+kernel,⟨by decide+kernel,by decide+kernel⟩,by omega⟩)
 refine w_ ?_
 refine lc (dK (QK QEB QEC tx2 QED (by decide+kernel) (by decide+kernel)).frozenG Zi)<|lc (dK (QK tx4 tx5 tx2 tx6 (by decide+kernel) (by decide+kernel)).frozenG Zi)<|Z7 10 [] (Qch (Qu QEB QEC tx2 QED) (Qu tx4 tx5 tx2 tx6) (by decide+kernel) (by decide+kernel)) Qm9 e2_ trivial rfl (fun _=>rfl) (fun _=>⟨(Fresh.of rfl),(Fresh.of rfl),(Fresh.of rfl),trivial⟩) (nlr rfl) fun e h=>w3 ?_
 refine lc (xal 13 Qsr JC)<|w6 ?_
 refine cb_ (fun _=> ?_) fun _=> ?_
 refine w4 ?_
 refine Z7 14 [(0,0)] (Xr code (pkA 9 at_) (pkS code at_ sd 9) (by omega)) Qbj e1_ ⟨rfl,trivial⟩ rfl (fun _=>rfl) (fun _=>⟨trivial,(Fresh.of rfl),(Fresh.of rfl),(Fresh.of rfl),trivial⟩) (nlr rfl) fun a m=>w3 ?_
 subst b
 refine QZ (x:=(((a.1.1.1,a.1.1.2),(a.1.2.1,(a.1.2.2.1,a.1.2.2.2))),(a.2.1,a.2.2))) [(0,0),(1,15),(2,16),(3,17)] ?_ (Res.one rfl (Rs.cell rfl rfl Yh rfl)) rfl ⟨rfl,rfl,rfl,rfl,trivial⟩ rfl rfl
 (have c:=‹Ty.tot Qeq _≤1000∧_›;dsimp only;exact ⟨c.1,c.2.1,by omega⟩)
 refine w5 ?_
 subst b
 refine QZ (x:=(((e.1.1.1,e.1.1.2),(e.1.2.1,(e.1.2.2.1,e.1.2.2.2))),((pkA 9 at_),(pkS code at_ sd 9)))) [(0,0),(1,10),(2,11),(3,12)] ?_ (Res.one rfl (Rs.cell rfl rfl Yh rfl)) rfl ⟨rfl,rfl,rfl,rfl,trivial⟩ rfl rfl
 (have c:=‹_=true→_=unS _ _›;have f:=c ‹_›;dsimp only;rw[f];exact ⟨by decide+kernel,⟨by decide+kernel,by decide+kernel⟩,by omega⟩)
 refine w_ ?_
 refine lc (dG 18 (QK tx4 tx5 tx2 Qsp (by decide+kernel) (by decide+kernel)) Zi)<|w3 ?_
 subst b
 refine QZ (x:=(((((Qu tx4 tx5 tx2 Qsp).1).1,((Qu tx4 tx5 tx2 Qsp).1).2),((Qu tx4 tx5 tx2 Qsp).2.1,((Qu tx4 tx5 tx2 Qsp).2.2.1,(Qu tx4 tx5 tx2 Qsp).2.2.2))),((pkA 9 at_),(pkS code at_ sd 9)))) [(0,0),(1,18),(2,19),(3,20)] ?_ (Res.one rfl (Rs.cell rfl rfl Yh rfl)) rfl ⟨rfl,rfl,rfl,rfl,trivial⟩ rfl rfl
 (dsimp only;exact ⟨by decide+kernel,⟨by decide+kernel,by decide+kernel⟩,by omega⟩)
 refine w_ ?_
 refine lc (dG 21 (QK tx4 H5 tx2 Qg6 (by decide+kernel) (by decide+kernel)) Zi)<|w3 ?_
 subst b
 refine QZ (x:=(((((Qu tx4 H5 tx2 Qg6).1).1,((Qu tx4 H5 tx2 Qg6).1).2),((Qu tx4 H5 tx2 Qg6).2.1,((Qu tx4 H5 tx2 Qg6).2.2.1,(Qu tx4 H5 tx2 Qg6).2.2.2))),((pkA 9 at_),(pkS code at_ sd 9)))) [(0,0),(1,21),(2,22),(3,23)] ?_ (Res.one rfl (Rs.cell rfl rfl Yh rfl)) rfl ⟨rfl,rfl,rfl,rfl,trivial⟩ rfl rfl
 (dsimp only;exact ⟨by decide+kernel,⟨by decide+kernel,by decide+kernel⟩,by omega⟩)
 refine w_ ?_
 refine lc (dG 24 (QK tx7 tx8 tx2 Qg5 (by decide+kernel) (by decide+kernel)) Zi)<|w3 ?_
 subst b
 refine QZ (x:=(((((Qu tx7 tx8 tx2 Qg5).1).1,((Qu tx7 tx8 tx2 Qg5).1).2),((Qu tx7 tx8 tx2 Qg5).2.1,((Qu tx7 tx8 tx2 Qg5).2.2.1,(Qu tx7 tx8 tx2 Qg5).2.2.2))),((pkA 9 at_),(pkS code at_ sd 9)))) [(0,0),(1,24),(2,25),(3,26)] ?_ (Res.one rfl (Rs.cell rfl rfl Yh rfl)) rfl ⟨rfl,rfl,rfl,rfl,trivial⟩ rfl rfl
 (dsimp only;exact ⟨by decide+kernel,⟨by decide+kernel,by decide+kernel⟩,by omega⟩)
end Go.Proofs.YtjfpbcmfbnnooaaGreat
