import Derived.Test.YtjfpbcmfbnnooaaGreatPMi
set_option linter.all false
namespace Go.Proofs.YtjfpbcmfbnnooaaGreat
open Go.RowKit Tryz
set_option maxRecDepth 100000
set_option maxHeartbeats 4000000
def RvP (s r:List Int)(m:Nat):Prop:=r.length=s.length∧∀p:Nat,p<s.length→r[p]? =if p<m∨s.length≤p+m then s[s.length - 1 - p]? else s[p]?
def KZ (last:Int)(f:DFl):Prop:=(0≤f.1∧f.1≤last)∧(0≤f.2.2∧f.2.2≤last)∧(0≤f.2.1∧f.2.1≤23)
instance (last:Int) (f:DFl):Decidable (KZ last f):=inferInstanceAs (Decidable (_∧_))
section
variable {s r far l0:List Int}{m n k i:Nat}{x y u last:Int}{e:Int×Int}{f:DFl}{p:DPr}{F:List DFl}{es:List (Int×Int)}
def QGE:RvP s s 0:=⟨rfl,fun p a=>by rw[if_neg (by omega)]⟩
def QGF (h:RvP s r m)(z:2*m+1<s.length)(t:r[m]? =some x)(v:r[s.length - 1 - m]? =some y){i j:Int}(hi:i=(m:Int))(w:j=(s.length:Int) - 1 - (m:Int)):RvP s ((r.set i.toNat y).set j.toNat x) (m+1):=by
 obtain ⟨o,a⟩:=h
 rw[show i.toNat=m by omega,show j.toNat=s.length - 1 - m by omega]
 have g:=a m (by omega)
 have l:=a (s.length - 1 - m) (by omega)
 rw[t,if_neg (by omega)] at g
 rw[v,if_neg (by omega)] at l
 refine ⟨by simp[o],fun p q=> ?_⟩
 by_cases b:s.length - 1 - m=p
 ·rw[← b,bj (by simp;omega),if_pos (by omega),g]
  congr 1;omega
 ·rw[bh b]
  by_cases c:m=p
  ·subst c
   rw[bj (by omega),if_pos (by omega),l]
  ·rw[bh c,a p q]
   by_cases d:p<m∨s.length≤p+m
   ·rw[if_pos d,if_pos (by omega)]
   ·rw[if_neg d,if_neg (by omega)]
def QBI (h:RvP s r m)(d:s.length≤2*m+1):r=s.reverse:=by
 obtain ⟨c,b⟩:=h
 refine bL fun p=> ?_
 by_cases a:p<s.length
 ·rw[b p a,List.getElem?_reverse a]
  by_cases e:p<m∨s.length≤p+m
  ·rw[if_pos e]
  ·rw[if_neg e];congr 1;omega
 ·rw[bt (by omega),bt (by rw[List.length_reverse];omega)]
def QFy (h:¬e.2=u):false=bkB far u e:=by unfold bkB;rw[aj h];rfl
def QFz (h:e.2=u)(a:far[e.1.toNat]? =some x)(b:far[u.toNat]? =some y):decide (x=y - 1)=bkB far u e:=by unfold bkB;rw[ay h,X0 a,X0 b];rfl
def QtO (b:1≤n)(c:∀e∈es,InE n e):(Q6 n es).length=n∧∀v∈Q6 n es,-1≤v∧v≤(n:Int):=by
 obtain ⟨r,h,_⟩:=Qah b c
 have g:=h.q_le
 exact ⟨h.len,fun v d=>by have a:=h.rng v d;have j: -1≤v∧v≤(([0]++r).length:Int):=a;omega⟩
def QFO (h:¬(0≤f.1∧f.1≤last)):true= !decide (KZ last f):=by rw[aj fun g=>h g.1];rfl
def QFP (h:¬(0≤f.2.2∧f.2.2≤last)):true= !decide (KZ last f):=by rw[aj fun g=>h g.2.1];rfl
def QFQ (a:0≤f.1∧f.1≤last)(b:0≤f.2.2∧f.2.2≤last):(!decide (0≤f.2.1∧f.2.1≤23))= !decide (KZ last f):=by
 congr 1;exact bu.2 ⟨fun g=>⟨a,b,g⟩,fun g=>g.2.2⟩
def QD7 (h:¬(1≤(p.1.length:Int)∧(p.1.length:Int)≤600)):¬Qa6 p:=fun g=>h g.1
def QD6 (h:¬(p.2.1.length:Int)≤6000):¬Qa6 p:=fun g=>h g.2.1
def QGp (d:1≤(p.1.length:Int)∧(p.1.length:Int)≤600)(j:(p.2.1.length:Int)≤6000):(!(p.2.1.any fun c=> !decide (KZ ((p.1.length:Int) - 1) c)))=decide (Qa6 p):=by
 cases h:p.2.1.any fun c=> !decide (KZ ((p.1.length:Int) - 1) c) with
 | false=>
  rw[bV] at h
  exact (ay (show Qa6 p from ⟨d,j,fun f b=>by have a:=h f b;simp only[cA,decide_eq_false_iff_not,Decidable.not_not] at a;exact a⟩)).symm
 | true=>
  obtain ⟨f,b,a⟩:=bG.1 h
  refine (aj fun g=> ?_).symm
  have l:KZ ((p.1.length:Int) - 1) f:=g.2.2 f b
  rw[ay l] at a;cases a
def QEt (a:F[k]? =some f):Uz (F.take k)++[(f.1,f.2.2)]=Uz (F.take (k+1)):=by unfold Uz;rw[Qr a,aT];rfl
def Qqg:(Uz F).length=F.length:=by simp[Uz]
def QEp {L:List Int}(b:L[k]? =some x)(a:F[x.toNat]? =some f):((L.take k).map fun i=>(F[i.toNat]?).getD (0,0,0))++[f]=(L.take (k+1)).map fun i=>(F[i.toNat]?).getD (0,0,0):=by
 rw[Qr b,aT];simp[a]
def QvK (h:¬Qa6 p):[]=(Uy p x).1∧false=(Uy p x).2:=by unfold Uy;rw[if_neg fun g=>h g.1.1];exact ⟨rfl,rfl⟩
def QvL (h:¬(0≤x∧x≤(p.1.length:Int) - 1)):[]=(Uy p x).1∧false=(Uy p x).2:=by unfold Uy;rw[if_neg fun g=>h g.1.2];exact ⟨rfl,rfl⟩
def QvM (h:(Jx p x).2=false):[]=(Uy p x).1∧false=(Uy p x).2:=by unfold Uy;rw[if_neg fun g=>by rw[h] at g;cases g.2];exact ⟨rfl,rfl⟩
def QzJ (a:Qa6 p)(b:0≤x∧x≤(p.1.length:Int) - 1)(c:(Jx p x).2=true):(Jx p x).1.map (fun f=>f.2.1)=(Uy p x).1∧true=(Uy p x).2:=by unfold Uy;rw[if_pos ⟨⟨a,b⟩,c⟩];exact ⟨rfl,rfl⟩
def QyC (a:Qa6 p)(b:0≤x):(Jx p x).1.length≤600:=by
 have c:=(QjD (n:=p.1.length) (es:=Uz p.2.1) (u:=x) (by have:=a.1.1;omega) (QjL a) b).1
 have d:=a.1.2
 unfold Jx
 rw[aC];omega
end
def UH (s:List Int)(N:s.length≤1000000):FC prog 239 [(false,[.ref 0])] [ar 0 3 .int s] 1 (Is (PV.tup []) [ar 0 3 .int s.reverse]):=by
 refine Ql func239 rfl rfl ntmps239 fun L E K B M D C=>w8 ?_
 refine Qy (fun t A=>∃(m:Nat) (b:Int) (c:Int) (r:List Int),t=s.length - m∧(b=(m:Int)∧c=(s.length:Int) - 1 - (m:Int))∧(RvP s r m)∧(2*m≤s.length+1)∧A=⟨[(0,lR 0),(2,lI b),(3,lI c)],[ar 0 3 .int r]⟩) ⟨0,0,(s.length:Int) - 1,s,rfl,⟨rfl,by omega⟩,QGE,(by omega),rfl⟩ ?_ ?_
 exact wo []
 rintro t A ⟨m,b,c,r,G,q,l,O,rfl⟩
 have H:=l.1
 refine w6 ?_
 cases g:(decide (b<c))
 have h:=ab g
 refine w2 ?_
 refine (?_:fin _ _ _ _ .normal _)
 exact fi_ [] E ⟨(Qg (by exact QBI l (by omega))),trivial⟩
 have h:=aa g
 refine w4 ?_
 obtain ⟨y,j⟩:=gx r ((c).toNat)
 have J:=j
 obtain ⟨x,d⟩:=gx r ((b).toNat)
 have I:=d
 obtain ⟨P,o⟩:∃z,(r.set ((b).toNat) y)[(c).toNat]? =some z:=⟨_,ak (by first|omega|(simp only[ax];omega))⟩
 apply dV (i6 14 _ _ _ _ _ _ (io 20 (lf (.ept 0 1 ((c).toNat) 0))::io 21 (lI y)::i2 22 _ _ [io 24 (lf (.ept 0 1 ((b).toNat) 0)),io 25 (lI x),io 26 (lf (.ept 0 1 ((b).toNat) 0)),⟨none,lf (.val undef),[ar 0 3 .int (r.set ((b).toNat) y)]⟩,io 27 (lf (.ept 0 1 ((c).toNat) 0)),⟨none,lf (.val undef),[ar 0 3 .int ((r.set ((b).toNat) y).set ((c).toNat) x)]⟩])) [0,1,3,7,15,31,15,15,255,511,255,255,12,12,0,0]
 refine z6 ?_
 refine zz (fun _ a=>ac (Qw (e:= .int) (a.v rfl) (a.en 0 rfl) (a.v rfl) ZX Zv rfl (by omega) (by first|omega|(simp only[ax];omega))) rfl)<|zz (fun _ a=>ac (ZE (e:= .int) (a.v rfl) (a.n 0 rfl) j rfl Zv rfl rfl) rfl)<|z2 ?_
 exact zz (fun _ a=>ac (Qw (e:= .int) (a.v rfl) (a.en 0 rfl) (a.v rfl) ZX Zv rfl (by omega) (by first|omega|(simp only[ax];omega))) rfl)<|zz (fun _ a=>ac (ZE (e:= .int) (a.v rfl) (a.n 0 rfl) d rfl Zv rfl rfl) rfl)<|zz (fun _ a=>ac (Qw (e:= .int) (a.v rfl) (a.en 0 rfl) (a.v rfl) ZX Zv rfl (by omega) (by first|omega|(simp only[ax];omega))) rfl)<|zz (fun _ a=>ac (QO (e:= .int) (z':=y) (a.v rfl) (a.n 0 rfl) d rfl (a.w rfl) rfl Zv rfl rfl) rfl)<|zz (fun _ a=>ac (Qw (e:= .int) (a.v rfl) (a.en 0 rfl) (a.v rfl) ZX Zv rfl (by omega) (by first|omega|(simp only[ax];omega))) rfl)<|zz (fun _ a=>ac (QO (e:= .int) (z':=x) (a.v rfl) (a.n 0 rfl) o rfl (a.w rfl) rfl Zv rfl rfl) rfl)<|zN
 refine w8 ?_
 exact Qc<|Zb ⟨(m+1),(b+1),(c - 1),((r.set ((b).toNat) y).set ((c).toNat) x),rfl,⟨by omega,by omega⟩,(QGF l (by omega) (by rw[show m=(b).toNat by omega];exact I) (by rw[show s.length - 1 - m=(c).toNat by omega];exact J) q.1 q.2),(by omega),rfl⟩ (by omega)<|wp [] ⟨(Qg (by first|rfl|simp)),trivial⟩
def Qbx (e:Int×Int)(u:Int)(far:List Int)(I:0≤e.1∧e.1<(far.length:Int))(J:0≤u∧u<(far.length:Int))(B:∀v∈far,-1≤v∧v≤100000):FC prog 238 [(true,[dI e.1,dI e.2]),(false,[.ptr 0 0]),(false,[.ptr 1 0])] [bx 0 3 [dI u],bx 1 62 [.dat Qv far]] 2 (Is (lB (bkB far u e)) [bx 0 3 [dI u],bx 1 62 [.dat Qv far]]):=by
 refine Ql func238 rfl rfl ntmps238 fun G l C q H A z=>acG 0 0 fun _=>acG 0 1 fun _=>w_ ?_
 refine xbx 2 ?_
 refine w2 ?_
 cases a:(decide (e.2=u))
 have c:=ab a
 apply dW (i3 5 _ _ _ (io 8 (lB false)::i9 9 _ _ _ _ _ _ _ _ _ (i4 18 _ _ _ _ [io 4 _]))) [0,0,3,0,0,0,32,32,0,0,992,2016,992,992,992,0,0,0]
 refine z3 ?_
 exact zz (fun _ b=>ac (Qz (a) (Vi (b.v rfl) (b.v rfl) rfl)) rfl)<|y14
 refine w_ ?_
 have t:(false:Bool)=(bkB far u e):=by
  exact QFy ‹_›
 exact fi_ [] l ⟨rfl,rfl,trivial⟩ (h0:=by rw[← t] <;> rfl)
 have c:=aa a
 obtain ⟨D,g⟩:=gx far ((e.1).toNat)
 have h:=g
 obtain ⟨E,d⟩:=gx far ((u).toNat)
 have j:=d
 have o:=B _ (ah d)
 apply dW (i3 5 _ _ _ (io 8 (lB true)::i9 9 _ _ _ _ _ _ _ _ _ (i4 18 _ _ _ _ [io 4 _]))) [0,0,3,0,0,0,32,32,0,0,992,2016,992,992,992,0,0,0]
 refine z3 ?_
 exact zz (fun _ b=>ac (Qz (a) (Vi (b.v rfl) (b.v rfl) rfl)) rfl)<|y14
 refine w_ ?_
 have w:(decide (D=(E - 1)):Bool)=(bkB far u e):=by
  exact QFz ‹_› h j
 exact fi_ [] l ⟨rfl,rfl,trivial⟩ (h0:=by rw[w] <;> rfl)
theorem JU (l:List (Int×Int))(u:Int)(far:List Int)(B:∀e∈l,0≤e.1∧e.1<(far.length:Int))(C:0≤u∧u<(far.length:Int))(A:∀v∈far,-1≤v∧v≤100000):FC prog 237 [(false,[.dat Qg8 l]),(false,[.clo 238 [0,1]])] [bx 0 3 [dI u],bx 1 62 [.dat Qv far]] 2 (Is (lI (Zj (bkB far u) l)) [bx 0 3 [dI u],bx 1 62 [.dat Qv far]]):=by
 refine Ql func237 rfl rfl ntmps237 fun E h D j G w t=>w6 ?_
 refine alL 6 fun _=> ?_
 refine w4 ?_
 refine lpK l.length (fun k=>NoneTo (bkB far u) l k) (fun k=>⟨[(0,lf (.dat Qg8 l)),(1,lf (.clo 238 [0,1])),(7,lI (l.length:Int)),(8,lI (k:Int))],[bx 0 3 [dI u],bx 1 62 [.dat Qv far]]⟩) (NoneTo.zero) ?_ fun k _ a=> ?_
 exact wo []
 refine w4 ?_
 cases c:(decide ((k:Int)<(l.length:Int)))
 have d:=ab c
 refine w7 ?_
 have o:((-1):Int)=(Zj (bkB far u) l):=by
  first|exact (a.no (by omega)).symm
 exact fi_ [] h ⟨rfl,rfl,trivial⟩ (h0:=by rw[← o] <;> rfl)
 have d:=aa c
 refine w12 ?_
 obtain ⟨g,b⟩:=gx l k
 refine w2 ?_
 refine lc (Y3 (args0:=[(true,[dI g.1,dI g.2])]) (caps:=[0,1]) 2 [(0,0),(1,1)] (Qbx g u far (B _ (ah b)) C A) Qm4 rfl (Qa rfl) rfl rfl ⟨_,_,rfl,(Qm rfl),rfl⟩ ⟨rfl,rfl,trivial⟩ rfl ⟨trivial,trivial,trivial⟩ (nlr rfl))<|w_ ?_
 cases z:(bkB far u g)
 refine w6 ?_
 exact Qc<|lK_ (a.step b (by first|assumption|(simp[*];done)))<|wo []
 refine w6 ?_
 have q:((k:Int):Int)=(Zj (bkB far u) l):=by
  exact (a.at b (by first|assumption|(simp[*];done))).symm
 exact fi_ [] h ⟨rfl,rfl,trivial⟩ (h0:=by rw[q] <;> rfl)
def Qde (n:Int)(l:List (Int×Int))(k:Int)(Z:1≤n∧n≤1000)(t:∀e∈l,InE n.toNat e)(I:l.length≤10000)(X:0≤k∧k<n):FC prog 166 [(false,[dI n]),(false,[.dat Qg8 l]),(false,[dI k])] [] 0 (Is (PV.tup [(false,[.ref 0]),(false,[dB ((KU n.toNat l k).2)])]) [ar 0 3 .int ((KU n.toNat l k).1)]):=by
 obtain ⟨T,G⟩:=QtO (n:=n.toNat) (es:=l) (by omega) t
 have a0:=QiZ (n:=n.toNat) (es:=l) (u:=k) (by omega) t
 refine Ql func166 rfl rfl ntmps166 fun O_ L a2 O X_ S R=>acI 2 fun d=>w_ ?_
 refine xbx 0 ?_
 refine w6 ?_
 refine lc (dO 1 (US n l 0 Z t I rfl) QfF)<|lc (dBs 2 (e:= .int) Ye)<|lc (xal 3 Qv H6)<|w4 ?_
 refine Q5<|AC.wk (QA (p:=3) (off:=0) (q:=1) rfl rfl rfl)<|w3 ?_
 obtain ⟨dk,J⟩:=gx (Q6 n.toNat l) ((k).toNat)
 have b:=J
 refine w4 ?_
 refine cd_ (fun _ _=> ?_) fun _ _=> ?_
 refine w3 ?_
 refine Qy (fun M N=>∃(u:Int) (a:List Int),M=(YQ (Q6 n.toNat l) u).toNat∧(bkG (Q6 n.toNat l) l (YQ (Q6 n.toNat l) k).toNat k []=bkG (Q6 n.toNat l) l (YQ (Q6 n.toNat l) u).toNat u a)∧(0≤u∧u<n)∧((a.length:Int)+YQ (Q6 n.toNat l) u=YQ (Q6 n.toNat l) k)∧N=⟨[(1,lf (.dat Qg8 l)),(5,lP 0 0),(6,lf (.val (.slice none 0 0))),(7,lB false),(8,lP 3 0),(9,lR 4)],[bx 0 3 [dI u],bx 3 62 [.dat Qv (Q6 n.toNat l)],ar 4 3 .int a]⟩) ⟨k,([]:(Qv:Ty).Den),rfl,rfl,X,(by simp),rfl⟩ ?_ ?_
 exact wp [(4,2)] ⟨rfl,rfl,(Qg (by first|rfl|simp)),trivial⟩
 rintro M N ⟨u,a,Y,E,hu,ho,rfl⟩
 have a1:=QiZ (n:=n.toNat) (es:=l) (u:=u) (by omega) t
 refine w4 ?_
 refine alI 21 fun _=> ?_
 obtain ⟨P,z⟩:=gx (Q6 n.toNat l) ((u).toNat)
 have j:=z
 refine w4 ?_
 cases g:(decide (0<P))
 have h:=ab g
 refine w5 ?_
 refine lc (dP 5 [(0,4)] (UH a (by omega)) Qm5)<|w7 ?_
 have C:(true:Bool)=((KU n.toNat l k).2):=by
  (rw[QjE (by rw[X0 b];assumption),E,Qtm (by rw[X0 j];omega)])
 exact fi_ [(0,4)] L ⟨(Qg (by (rw[QjE (by rw[X0 b];assumption),E,Qtm (by rw[X0 j];omega)]))),trivial⟩ (h0:=by rw[← C] <;> rfl)
 have h:=aa g
 refine w5 ?_
 refine lc (Ys ⟨_,_,rfl,(Qa rfl),rfl,⟨_,_,rfl,(Qa rfl),rfl,rfl⟩⟩ rfl)<|lc (dP 6 [(1,3)] (JU l u (Q6 n.toNat l) (fun e U=>by have B:=(t e U).1;omega) (by omega) (fun v hv=>by have B:=G v hv;omega)) Qm3)<|w2 ?_
 refine Q5 ?_
 have w:0<YQ (Q6 n.toNat l) u:=by rw[X0 j];omega
 obtain ⟨i_,Q,o,d,V,H⟩:=QoI (by omega) t hu.1 w
 have W:=(ae.1 d).1
 refine w3 ?_
 refine lc (dBs 8 (e:= .int) Ye)<|lc (dA 9 Xg)<|w5 ?_
 obtain ⟨K,A⟩:=gx l ((Zj (bkB (Q6 n.toNat l) u) l).toNat)
 have c:K=Q:=by have B:=A;rw[o,bW,d] at B;exact (bD B).symm
 refine w4 ?_
 exact Qc<|Zb ⟨K.1,(a++([Zj (bkB (Q6 n.toNat l) u) l])),rfl,(by rw[E,QCJ w o d H,c,o]),(by rw[c];omega),(by rw[c,ai,cy];omega),rfl⟩ (by rw[c];omega)<|wp [(4,9)] ⟨rfl,rfl,(Qg (by first|rfl|simp)),trivial⟩
 refine w4 ?_
 refine AC.wk (Wk.nilS 10 6 3 .int rfl (Fresh.of rfl) (nlr rfl))<|w_ ?_
 have D:(false:Bool)=((KU n.toNat l k).2):=by
  (rw[Qog (by rw[X0 b];assumption)])
 exact fi_ [(0,10)] L ⟨(Qg (by (rw[Qog (by rw[X0 b];assumption)]))),trivial⟩ (h0:=by rw[← D] <;> rfl)
def QaE (f:Int×Int×Int)(last:Int):FC prog 165 [(true,[dI f.1,dI f.2.1,dI f.2.2]),(false,[.ptr 0 0])] [bx 0 3 [dI last]] 1 (Is (lB (!decide (KZ last f))) [bx 0 3 [dI last]]):=by
 refine Ql func165 rfl rfl ntmps165 fun w g v h z t q=>w_ ?_
 refine xbx 1 ?_
 refine w6 ?_
 refine lc (dK (QE f.1 0 last) Za)<|w2 ?_
 cases a:(decide (0≤f.1∧f.1≤last))
 have b:=ab a
 refine w15 ?_
 have j:(true:Bool)=(!decide (KZ last f)):=by
  exact QFO ‹_›
 exact fi_ [] g ⟨rfl,trivial⟩ (h0:=by rw[← j] <;> rfl)
 have b:=aa a
 refine w3 ?_
 refine lgy rfl rfl (dK (QE f.2.2 0 last) Za)<|w3 ?_
 cases c:(decide (0≤f.2.2∧f.2.2≤last))
 have d:=ab c
 refine w8 ?_
 have l:(true:Bool)=(!decide (KZ last f)):=by
  exact QFP ‹_›
 exact fi_ [] g ⟨rfl,trivial⟩ (h0:=by rw[← l] <;> rfl)
 have d:=aa c
 refine w2 ?_
 refine lgy rfl rfl (dK (QE f.2.1 0 23) Za)<|w5 ?_
 have o:(!(decide (0≤f.2.1∧f.2.1≤23)):Bool)=(!decide (KZ last f)):=by
  exact QFQ ‹_› ‹_›
 exact fi_ [] g ⟨rfl,trivial⟩ (h0:=by rw[o] <;> rfl)
theorem Qcc (l:List (Int×Int×Int))(last:Int):FC prog 236 [(false,[.dat ZM l]),(false,[.clo 165 [0]])] [bx 0 3 [dI last]] 1 (Is (lI (Zj (fun b:DFl=> !decide (KZ last b)) l)) [bx 0 3 [dI last]]):=by
 refine Ql func236 rfl rfl ntmps236 fun B j A o C w v=>w6 ?_
 refine alL 6 fun _=> ?_
 refine w4 ?_
 refine lpK l.length (fun k=>NoneTo (fun b:DFl=> !decide (KZ last b)) l k) (fun k=>⟨[(0,lf (.dat ZM l)),(1,lf (.clo 165 [0])),(7,lI (l.length:Int)),(8,lI (k:Int))],[bx 0 3 [dI last]]⟩) (NoneTo.zero) ?_ fun k _ a=> ?_
 exact wo []
 refine w4 ?_
 cases c:(decide ((k:Int)<(l.length:Int)))
 have d:=ab c
 refine w7 ?_
 have q:((-1):Int)=(Zj (fun b:DFl=> !decide (KZ last b)) l):=by
  first|exact (a.no (by omega)).symm
 exact fi_ [] j ⟨rfl,trivial⟩ (h0:=by rw[← q] <;> rfl)
 have d:=aa c
 refine w12 ?_
 obtain ⟨h,g⟩:=gx l k
 refine w2 ?_
 refine lc (Y3 (args0:=[(true,[dI h.1,dI h.2.1,dI h.2.2])]) (caps:=[0]) 1 [(0,0)] (QaE h last) QmE rfl (Qa rfl) rfl rfl ⟨_,_,rfl,(Qm rfl),rfl⟩ ⟨rfl,trivial⟩ rfl ⟨trivial,trivial⟩ (nlr rfl))<|w_ ?_
 cases z:(!decide (KZ last h))
 refine w6 ?_
 exact Qc<|lK_ (a.step g (by first|assumption|(simp[*];done)))<|wo []
 refine w6 ?_
 have t:((k:Int):Int)=(Zj (fun b:DFl=> !decide (KZ last b)) l):=by
  exact (a.at g (by first|assumption|(simp[*];done))).symm
 exact fi_ [] j ⟨rfl,trivial⟩ (h0:=by rw[t] <;> rfl)
def Hp (l:List (Int×Int×Int))(last:Int):FC prog 164 [(false,[.dat ZM l]),(false,[.clo 165 [0]])] [bx 0 3 [dI last]] 1 (Is (lB (l.any (fun a:DFl=> !decide (KZ last a)))) [bx 0 3 [dI last]]):=by
 refine Ql func164 rfl rfl ntmps164 fun o h j b q g d=>w6 ?_
 refine lc (dP 1 [] (Qcc l last) Qm2)<|w4 ?_
 have c:(decide (0≤(Zj (fun a:DFl=> !decide (KZ last a)) l)):Bool)=(l.any (fun a:DFl=> !decide (KZ last a))):=by
  exact WI _ _
 exact fi_ [] h ⟨rfl,trivial⟩ (h0:=by rw[c] <;> rfl)
def Qcf (p:QtS):FC prog 88 [(true,[.dat Xz p.1,.dat ZM p.2.1,.dat ZM p.2.2])] [] 0 (QJ (lB (decide (Qa6 p)))):=by
 refine Ql func88 rfl rfl ntmps88 fun q g o h t l j=>w_ ?_
 refine xbx 0 ?_
 refine w5 ?_
 refine alL 5 fun _=> ?_
 refine w2 ?_
 refine lc (xal 1 .int Ye)<|w6 ?_
 refine lc (dK (QE (p.1.length:Int) 1 600) Za)<|w_ ?_
 cases a:(decide (1≤(p.1.length:Int)∧(p.1.length:Int)≤600))
 have b:=ab a
 refine w15 ?_
 refine fqB g ?_
 exact (aj (QD7 ‹_›)).symm
 have b:=aa a
 refine w6 ?_
 cases c:(decide ((p.2.1.length:Int)≤6000))
 have d:=ab c
 refine w9 ?_
 refine fqB g ?_
 exact (aj (QD6 ‹_›)).symm
 have d:=aa c
 refine w2 ?_
 refine lgy rfl rfl (Ys ⟨_,_,rfl,(Qa rfl),rfl,rfl⟩ rfl)<|lgy rfl rfl (dP 2 [(0,1)] (Hp p.2.1 ((p.1.length:Int) - 1)) QmD)<|w5 ?_
 refine fqB g ?_
 exact QGp ‹_› ‹_›
def Qd7 (p:QtS)(k:Int)(v:Qa6 p)(K:0≤k∧k≤(p.1.length:Int) - 1):FC prog 89 [(true,[.dat Xz p.1,.dat ZM p.2.1,.dat ZM p.2.2]),(false,[dI k])] [] 0 (Is (PV.tup [(false,[.ref 0]),(false,[dB ((Jx p k).2)])]) [ar 0 68 QI ((Jx p k).1)]):=by
 have M:=v.1
 have N:=v.2.1
 have B:=Qqg (F:=p.2.1)
 obtain ⟨L,z,_⟩:=QjD (n:=p.1.length) (es:=Uz p.2.1) (u:=k) (by omega) (QjL v) K.1
 refine Ql func89 rfl rfl ntmps89 fun R J P E S I H=>acI 1 fun _=>w_ ?_
 refine xbx 0 ?_
 refine w4 ?_
 refine lc (dBs 1 (e:=QdY) Qay)<|lc (dBs 2 (e:=QI) VM)<|w11 ?_
 refine lp0 p.2.1.length (fun i=>⟨[(1,lI k),(2,lP 0 0),(4,lf (.val (.slice none 0 0))),(5,lB false),(6,lR 3),(7,lR 2),(17,lf (.dat ZM p.2.1)),(18,lI (p.2.1.length:Int)),(19,lI (i:Int))],[bx 0 54 [.dat Xz p.1,.dat ZM p.2.1,.dat ZM p.2.2],ar 2 68 QI ([]),ar 3 204 QdY (Uz (p.2.1.take i))]⟩) ?_ fun i _=> ?_
 exact wp [(3,1)] ⟨rfl,rfl,(Qg (rfl)),trivial⟩
 have O:(Uz (p.2.1.take i)).length≤i:=by rw[Qqg,au];omega
 refine w4 ?_
 cases d:(decide ((i:Int)<(p.2.1.length:Int)))
 have g:=ab d
 refine w3 ?_
 refine Q5 ?_
 have o:p.2.1.take i=p.2.1:=aJ (by omega)
 refine w6 ?_
 refine lc (Y0 4 (Qde (p.1.length:Int) (Uz (p.2.1.take i)) k (by omega) (by rw[o,bW];exact QjL v) (by omega) (by omega)) QmF ⟨_,_,rfl,(Ev.b (Qm rfl)),⟨_,_,rfl,(Qa4 (Qa rfl) rfl),⟨_,_,rfl,(Ev.b (Qm rfl)),rfl⟩⟩⟩ rfl rfl rfl ⟨Fresh.of rfl,trivial⟩ (nlr rfl))<|w7 ?_
 refine Q5 ?_
 rw[o,bW]
 refine w6 ?_
 refine lp0 (((KU p.1.length (Uz p.2.1) k).1).length) (fun j=>⟨[(2,lP 0 0),(4,lf (.val (.slice none 0 0))),(5,lB false),(7,lR 5),(11,lB ((KU p.1.length (Uz p.2.1) k).2)),(41,lR 4),(42,lI (((KU p.1.length (Uz p.2.1) k).1).length:Int)),(43,lI (j:Int))],[bx 0 54 [.dat Xz p.1,.dat ZM p.2.1,.dat ZM p.2.2],ar 4 3 .int ((KU p.1.length (Uz p.2.1) k).1),ar 5 68 QI (((KU p.1.length (Uz p.2.1) k).1.take j).map fun i=>(p.2.1[i.toNat]?).getD (0,0,0))]⟩) ?_ fun j _=> ?_
 exact wp [(5,2)] ⟨rfl,rfl,(Qg (rfl)),trivial⟩
 refine w4 ?_
 cases h:(decide ((j:Int)<(((KU p.1.length (Uz p.2.1) k).1).length:Int)))
 have l:=ab h
 refine w10 ?_
 have G:((KU p.1.length (Uz p.2.1) k).2:Bool)=((Jx p k).2):=by
  rfl
 exact fi_ [(0,5)] J ⟨(Qg (by (rw[aJ (by omega)];rfl))),trivial⟩ (h0:=by rw[G] <;> rfl)
 have l:=aa h
 refine w6 ?_
 obtain ⟨Q,c⟩:=gx ((KU p.1.length (Uz p.2.1) k).1) j
 have A:=z _ (ah c)
 rw[B] at A
 refine w_ ?_
 refine alI 46 fun _=> ?_
 refine w7 ?_
 obtain ⟨a,q⟩:=gx p.2.1 ((Q).toNat)
 have D:=q
 refine w2 ?_
 refine lc (dBs 6 (e:=QI) VM (hab:=by exact ⟨_,_,_,_,rfl,⟨[dI a.1],[dI a.2.1,dI a.2.2],_,_,_,_,rfl,rfl,⟨rfl,rfl⟩,⟨[dI a.2.1],[dI a.2.2],_,_,_,_,rfl,rfl,⟨rfl,rfl⟩,⟨rfl,rfl⟩,rfl⟩,rfl⟩,⟨rfl,rfl⟩,rfl⟩))<|lc (dA 7 Qa9)<|w_ ?_
 refine Qc<|w4 ?_
 exact Qc<|l0_<|wp [(5,7)] ⟨rfl,rfl,(Qg ((QEp c ‹_›))),trivial⟩
 have g:=aa d
 refine w5 ?_
 obtain ⟨C,t⟩:=gx p.2.1 i
 have w:=t
 refine w2 ?_
 refine lc (xal 8 QI VM)<|w8 ?_
 refine lc (Qh QoJ ⟨_,_,rfl,(Qm rfl),⟨_,_,rfl,(Qm rfl),rfl⟩⟩ (ao.1 rfl) rfl rfl)<|lc (dBs 9 (e:=QdY) Qay (hab:=by exact ⟨_,_,_,_,rfl,⟨[dI C.1],[dI C.2.2],_,_,_,_,rfl,rfl,⟨rfl,rfl⟩,⟨rfl,rfl⟩,rfl⟩,⟨rfl,rfl⟩,rfl⟩))<|lc (dA 10 Qo4)<|w_ ?_
 refine Qc<|w4 ?_
 exact Qc<|l0_<|wp [(3,10)] ⟨rfl,rfl,(Qg ((QEt w))),trivial⟩
def JV (p:QtS)(k:Int):FC prog 27 [(true,[.dat Xz p.1,.dat ZM p.2.1,.dat ZM p.2.2]),(false,[dI k])] [] 0 (Is (PV.tup [(false,[.ref 0]),(false,[dB ((Uy p k).2)])]) [ar 0 3 .int ((Uy p k).1)]):=by
 refine Ql func27 rfl rfl ntmps27 fun E l D t G B A=>acI 1 fun _=>w_ ?_
 refine xbx 0 ?_
 refine w6 ?_
 refine lc (dK (Qcf p) Qrc)<|w2 ?_
 cases c:(decide (Qa6 p))
 have d:=ab c
 refine w14 ?_
 refine AC.wk (Wk.nilS 1 4 3 .int rfl (Fresh.of rfl) (nlr rfl))<|w_ ?_
 have v:(false:Bool)=((Uy p k).2):=by
  exact (QvK ‹_›).2
 exact fi_ [(0,1)] l ⟨(Qg (by exact (QvK ‹_›).1)),trivial⟩ (h0:=by rw[← v] <;> rfl)
 have d:=aa c
 refine w3 ?_
 refine alL 17 fun _=> ?_
 refine w2 ?_
 refine lgy rfl rfl (dK (QE k 0 ((p.1.length:Int) - 1)) Za)<|w3 ?_
 cases g:(decide (0≤k∧k≤((p.1.length:Int) - 1)))
 have h:=ab g
 refine w5 ?_
 refine AC.wk (Wk.nilS 2 4 3 .int rfl (Fresh.of rfl) (nlr rfl))<|w_ ?_
 have w:(false:Bool)=((Uy p k).2):=by
  exact (QvL ‹_›).2
 exact fi_ [(0,2)] l ⟨(Qg (by exact (QvL ‹_›).1)),trivial⟩ (h0:=by rw[← w] <;> rfl)
 have h:=aa g
 refine w5 ?_
 refine lc (dG 3 (Qd7 p k ‹_› ‹_›) Qrd)<|w11 ?_
 refine cx_ (fun _=> ?_) fun _=> ?_
 refine w4 ?_
 refine AC.wk (Wk.nilS 4 4 3 .int rfl (Fresh.of rfl) (nlr rfl))<|w_ ?_
 have z:(false:Bool)=((Uy p k).2):=by
  exact (QvM ‹_›).2
 exact fi_ [(0,4)] l ⟨(Qg (by exact (QvM ‹_›).1)),trivial⟩ (h0:=by rw[← z] <;> rfl)
 refine w_ ?_
 refine Q5 ?_
 have C:=QyC (x:=k) (by assumption:Qa6 p) (by omega)
 refine w_ ?_
 refine lc (dBs 5 (e:= .int) Ye)<|w9 ?_
 refine lp0 (((Jx p k).1).length) (fun i=>⟨[(4,lf (.val (.slice none 0 0))),(5,lB false),(8,lR 6),(32,lR 3),(33,lI (((Jx p k).1).length:Int)),(34,lI (i:Int))],[ar 3 68 QI ((Jx p k).1),ar 6 3 .int (((Jx p k).1.take i).map fun f=>f.2.1)]⟩) ?_ fun i _=> ?_
 exact wp [(6,5)] ⟨rfl,(Qg (rfl)),trivial⟩
 refine w4 ?_
 cases a:(decide ((i:Int)<(((Jx p k).1).length:Int)))
 have b:=ab a
 refine w9 ?_
 have o:(true:Bool)=((Uy p k).2):=by
  exact (QzJ ‹_› ‹_› ‹_›).2
 exact fi_ [(0,6)] l ⟨(Qg (by (rw[aJ (by omega)];exact (QzJ ‹_› ‹_› ‹_›).1))),trivial⟩ (h0:=by rw[← o] <;> rfl)
 have b:=aa a
 refine w6 ?_
 obtain ⟨H,j⟩:=gx ((Jx p k).1) i
 have q:=j
 refine w_ ?_
 refine lc (xal 7 QI VM)<|w6 ?_
 refine lc (dBs 8 (e:= .int) Ye)<|lc (dA 9 Xg)<|w_ ?_
 refine Qc<|w4 ?_
 exact Qc<|l0_<|wp [(6,9)] ⟨rfl,(Qg ((by rw[Qr q,aT];rfl))),trivial⟩
theorem Hy (a:QtS)(b:QtS)(h:a=b):FC prog 24 [(true,[.dat Xz a.1,.dat ZM a.2.1,.dat ZM a.2.2]),(true,[.dat Xz b.1,.dat ZM b.2.1,.dat ZM b.2.2])] [] 0 (QJ (lB true)):=by
 have h1:a.1=b.1:=by rw[h]
 have h2:a.2.1=b.2.1:=by rw[h]
 have h3:a.2.2=b.2.2:=by rw[h]
 have S:a.1.length=b.1.length:=by rw[h]
 have a8:a.2.1.length=b.2.1.length:=by rw[h]
 have a9:a.2.2.length=b.2.2.length:=by rw[h]
 refine Ql func24 rfl rfl ntmps24 fun O_ t b0 a5 X_ a7 a6=>w_ ?_
 refine xbx 0 ?_
 refine xbx 1 ?_
 refine w6 ?_
 refine alL 9 fun S=>w6 ?_
 cases B:(!decide ((a.1.length:Int)=(b.1.length:Int)))
 have C:((a.1.length:Int)=(b.1.length:Int)):=QB B
 refine w2 ?_
 refine alL 17 fun _=> ?_
 refine w7 ?_
 cases D:(!decide ((a.2.1.length:Int)=(b.2.1.length:Int)))
 have E:((a.2.1.length:Int)=(b.2.1.length:Int)):=QB D
 refine w2 ?_
 refine alL 26 fun _=> ?_
 refine w7 ?_
 refine cn_ (fun _ _=> ?_) fun _ _=> ?_
 refine w9 ?_
 refine lp0 a.1.length (fun k=>⟨[(2,lP 0 0),(3,lP 1 0),(35,lI (a.1.length:Int)),(36,lI (k:Int))],[bx 0 54 [.dat Xz a.1,.dat ZM a.2.1,.dat ZM a.2.2],bx 1 54 [.dat Xz b.1,.dat ZM b.2.1,.dat ZM b.2.2]]⟩) ?_ fun k _=> ?_
 exact wo []
 refine w4 ?_
 cases d:(decide ((k:Int)<(a.1.length:Int)))
 have v:=ab d
 refine w11 ?_
 refine lp0 a.2.1.length (fun i=>⟨[(2,lP 0 0),(3,lP 1 0),(53,lI (a.2.1.length:Int)),(54,lI (i:Int))],[bx 0 54 [.dat Xz a.1,.dat ZM a.2.1,.dat ZM a.2.2],bx 1 54 [.dat Xz b.1,.dat ZM b.2.1,.dat ZM b.2.2]]⟩) ?_ fun i _=> ?_
 exact wo []
 refine w4 ?_
 cases g:(decide ((i:Int)<(a.2.1.length:Int)))
 have z:=ab g
 refine w11 ?_
 refine lp0 a.2.2.length (fun j=>⟨[(2,lP 0 0),(3,lP 1 0),(71,lI (a.2.2.length:Int)),(72,lI (j:Int))],[bx 0 54 [.dat Xz a.1,.dat ZM a.2.1,.dat ZM a.2.2],bx 1 54 [.dat Xz b.1,.dat ZM b.2.1,.dat ZM b.2.2]]⟩) ?_ fun j _=> ?_
 exact wo []
 refine w4 ?_
 cases o:(decide ((j:Int)<(a.2.2.length:Int)))
 have A:=ab o
 refine w7 ?_
 exact fe_ t
 have A:=aa o
 refine w8 ?_
 obtain ⟨M,G⟩:=gx a.2.2 j
 have T:=G
 obtain ⟨N,H⟩:=gx b.2.2 j
 have U:=H
 have V:M=N:=bD (T.symm.trans ((congrArg (fun l=>l[j]?) h3).trans U))
 apply dW (i9 75 _ _ _ _ _ _ _ _ _ [io 84 _,io 85 (lB (!(Ty.beq QI M N)))]) [0,0,3,0,0,31,31,127,31,31,0]
 refine z10 ?_
 exact zz (fun _ c=>ac (WX Qt0 QtZ (c.w rfl) (c.w rfl) (p:=M) (q:=N) rfl rfl rfl) rfl)<|zN
 cases a2:(Ty.beq QI M N)
 refine w5 ?_
 refine fqB t ?_
 ·(exfalso;subst V;simp_all [Y1];done)
 refine w6 ?_
 exact Qc<|l0_<|wo []
 have z:=aa g
 refine w8 ?_
 obtain ⟨O,I⟩:=gx a.2.1 i
 have W:=I
 obtain ⟨P,J⟩:=gx b.2.1 i
 have X:=J
 have Y:O=P:=bD (W.symm.trans ((congrArg (fun l=>l[i]?) h2).trans X))
 apply dW (i9 57 _ _ _ _ _ _ _ _ _ [io 66 _,io 67 (lB (!(Ty.beq QI O P)))]) [0,0,3,0,0,31,31,127,31,31,0]
 refine z10 ?_
 exact zz (fun _ c=>ac (WX Qt0 QtZ (c.w rfl) (c.w rfl) (p:=O) (q:=P) rfl rfl rfl) rfl)<|zN
 cases a3:(Ty.beq QI O P)
 refine w5 ?_
 refine fqB t ?_
 ·(exfalso;subst Y;simp_all [Y1];done)
 refine w6 ?_
 exact Qc<|l0_<|wo []
 have v:=aa d
 refine w8 ?_
 obtain ⟨Q,K⟩:=gx a.1 k
 have Z:=K
 obtain ⟨R,L⟩:=gx b.1 k
 have a0:=L
 have a1:Q=R:=bD (Z.symm.trans ((congrArg (fun l=>l[k]?) h1).trans a0))
 apply dW (i9 39 _ _ _ _ _ _ _ _ _ [io 48 _,io 49 (lB (!(Ty.beq QM Q R)))]) [0,0,3,0,0,31,31,127,31,31,0]
 refine z10 ?_
 exact zz (fun _ c=>ac (WX Qf7 Qf5 (c.w rfl) (c.w rfl) (p:=Q) (q:=R) rfl rfl rfl) rfl)<|zN
 cases a4:(Ty.beq QM Q R)
 refine w5 ?_
 refine fqB t ?_
 ·(exfalso;subst a1;simp_all [Y1];done)
 refine w6 ?_
 exact Qc<|l0_<|wo []
 refine w4 ?_
 refine fqB t ?_
 (exfalso;omega)
 have E:¬((a.2.1.length:Int)=(b.2.1.length:Int)):=QL D
 refine w14 ?_
 refine fqB t ?_
 (exfalso;omega)
 have C:¬((a.1.length:Int)=(b.1.length:Int)):=QL B
 refine w16 ?_
 refine w7 ?_
 refine fqB t ?_
 (exfalso;omega)
section
variable {c:DSg}{n:DNl}{b x:DPs}{k i:Nat}{p:DPr}{v:DFl}{w f:Int}{y:DPs}
def QDA (h:GoP c n):n.2.length≤24:=(W7 h).2.2.2.2.1
def QxW (h:PrI c n p.1.length p)(hb:p.1[k]? =some b)(d:(YE c n b n.2.length)[i]? =some x)(r:f=((Qcu c n p.1 k).length:Int))(hv:p.2.1[(f+(i:Int)).toNat]? =some v):
 v.1=(k:Int)∧(X3 c n b n.2.length)[i]? =some v.2.1∧(0≤v.2.2∧v.2.2<(p.1.length:Int))∧p.1[v.2.2.toNat]? =some x:=by
 have s:=(WL (c:=c) (n:=n) (b:=b) (m:=n.2.length)).1
 have q:=(ae.1 d).1
 obtain ⟨w,a⟩:∃w,(X3 c n b n.2.length)[i]? =some w:=⟨_,ak (by omega)⟩
 have e:(f+(i:Int)).toNat=(Qcu c n p.1 k).length+i:=by omega
 rw[e] at hv
 obtain ⟨g,j,l,o⟩:=QuF h hb d a hv
 exact ⟨g,by rw[a,j],l,o⟩
def QA1 {S:List DPs}(d:n.2.length≤24):(Qcu c n S k).length≤24*k:=by
 induction k with
 | zero=>exact aL _
 | succ k e=>
  have a:(QcD c n S k).length≤24:=by
   unfold QcD Vc
   rw[aC,dx]
   have:=(WL (c:=c) (n:=n) (b:=stA S k) (m:=n.2.length)).2.1
   omega
  rw[HR,ai];omega
variable [∀c,Decidable (SgOk c)][∀n,Decidable (QV n)]
def QA2 (h:GoP c n){m:Nat}(g:PrI c n m p)(hb:p.1[k]? =some b):(Vb c n b).1=YE c n b n.2.length∧(Vb c n b).2=X3 c n b n.2.length∧decide (GoP c n∧Wm c n b)=true:=by
 obtain ⟨a,d,e⟩:=QEu ⟨h,g.ok b (ah hb)⟩
 exact ⟨a.symm,d.symm,e.symm⟩
def QA0 (h:GoP c n):Vu c n=Xs c n:=if_pos h
end
theorem Qby (code:List UInt8)(e:List UInt8):FC prog 4 [(false,[.dat QP code]),(false,[.dat QP e])] [] 0 (QJ (lB true)):=by
 classical
 refine Ql func4 rfl rfl ntmps4 fun O_ Z d2 b9 X_ c1 c0=>w7 ?_
 refine lc (dK (QkK code e) QtY)<|w_ ?_
 refine cd_ (fun _ _=> ?_) fun _ _=> ?_
 refine w3 ?_
 refine Z7 0 [] (QaG code) QqU e1_ trivial rfl (fun _=>rfl) (fun _=>trivial) (nlr rfl) fun a c9=>w3 ?_
 refine lc (xal 0 UB Yq)<|lc (xal 1 J6 Xb)<|w6 ?_
 refine lc (dK (Qd6 a.1 a.2).frozenG QqV)<|w3 ?_
 refine lc (xal 2 QlA JF)<|w6 ?_
 refine lc (dK (Qd9 a.1 a.2).frozenG QqW)<|w3 ?_
 refine lc (xal 3 QlA JF)<|w7 ?_
 refine lc (ZG (Qa rfl) (Qa rfl) rfl YY)<|w_ ?_
 have a0:(((Q3 a.1 a.2).2)==((Q3 a.1 a.2).2))=true:=dM _
 try rw[a0]
 refine w2 ?_
 refine lgy rfl rfl (dK (Hy ((Q3 a.1 a.2).1) ((Q3 a.1 a.2).1) rfl) QqX)<|w5 ?_
 refine Xc (fun t=>t=⟨[(1,lf (.dat QP e))],[]⟩) ?_ fun J5=> ?_
 rintro t rfl
 refine w2 ?_
 refine Z7 4 [] (WP e) Qq0 e1_ trivial rfl (fun _=>rfl) (fun _=>trivial) (nlr rfl) fun j d0=>w3 ?_
 refine lc (xal 4 UB Yq)<|lc (xal 5 J6 Xb)<|w6 ?_
 refine lc (dK (Xw j.1 j.2) QhM)<|w3 ?_
 refine lc (xal 6 QM YJ)<|w6 ?_
 refine lc (dK (VV j.1 j.2) Qq1)<|w3 ?_
 refine lc (xal 7 QM YJ)<|w5 ?_
 refine Z7 8 [] (YI e) Qc5 e1_ trivial rfl (fun _=>rfl) (fun _=>trivial) (nlr rfl) fun u d1=>w3 ?_
 refine lc (xal 8 UB Yq)<|lc (xal 9 J6 Xb)<|w6 ?_
 refine lc (dK (WT u.1 u.2) QhN)<|w9 ?_
 refine lc (dK (JW u.1 u.2) Qq2)<|w9 ?_
 refine lc (Wr (Qa rfl) (Qa rfl) rfl YY)<|w_ ?_
 have G:((decide (GoP j.1 j.2))==(decide (GoP j.1 j.2)))=true:=dM _
 try rw[G]
 refine w2 ?_
 refine lgy rfl rfl (H9 Qf7 Qf5 (Qm rfl) (Qm rfl) (p:=(Vu j.1 j.2)) (q:=(Vu j.1 j.2)) rfl rfl rfl)<|w2 ?_
 have H:(Ty.beq QM (Vu j.1 j.2) (Vu j.1 j.2))=true:=Y1 _ _
 try rw[H]
 refine w2 ?_
 refine lgy rfl rfl (Wr (Qa rfl) (Qa rfl) rfl YY)<|w2 ?_
 have I:((decide (SgOk u.1∧QV u.2))==(decide (SgOk u.1∧QV u.2)))=true:=dM _
 try rw[I]
 refine w2 ?_
 refine lgy rfl rfl (Wr (Qa rfl) (Qa rfl) rfl YY)<|w4 ?_
 refine fqB Z ?_
 ·(simp[Y1];done)
 refine w4 ?_
 refine cb_ (fun _=> ?_) fun _=> ?_
 refine w_ ?_
 exact Yf (J5 _ rfl)<|wo []
 refine Q5 ?_
 obtain ⟨Y,z,h6⟩:=Qyj (c:=a.1) (n:=a.2) ‹_›
 have s:=QDA Y
 have c7:=(ae.1 z.fir).1
 have a2:=QA0 Y
 refine w3 ?_
 refine lc (dK (Xw a.1 a.2) QhM)<|w3 ?_
 refine lc (xal 10 QM YJ)<|w7 ?_
 obtain ⟨b0,Q⟩:=gx (((Q3 a.1 a.2).1).1) 0
 have b2:b0=Vu a.1 a.2:=by rw[a2];exact bD (Q.symm.trans z.fir)
 have b3:Ty.beq QM b0 (Vu a.1 a.2)=true:=by rw[b2,Y1]
 apply dW (io 72 (lB true)::i5 73 _ _ _ _ _ (io 78 (lB false)::i7 79 _ _ _ _ _ _ _ [io 86 (lB false),io 87 _])) [0,0,0,0,0,0,0,0,0,0,0,0,0,7680,0,0]
 refine zz (fun _ d=>ac (Qz (ay Y) (Kh (d.k rfl) rfl)) rfl)<|z5 ?_
 refine zz (fun _ d=>day rfl (d.k rfl) (Qz (aj (by omega)) (Vi (d.v rfl) (Qn rfl) rfl)) rfl)<|z7 ?_
 exact zz (fun _ d=>day rfl (d.k rfl) (Qz (XW (b3)) (WX Qf7 Qf5 (d.w rfl) (d.w rfl) (p:=b0) (q:=(Vu a.1 a.2)) rfl rfl rfl)) rfl)<|y1
 refine w10 ?_
 refine Qy (fun m_ t=>∃(k:Nat) (g:Int),k≤(((Q3 a.1 a.2).1).1).length∧m_=(((Q3 a.1 a.2).1).1).length - k∧(g=((Qcu a.1 a.2 ((Q3 a.1 a.2).1).1 k).length:Int))∧t=⟨[(1,lf (.dat QP e)),(5,lP 0 0),(6,lP 1 0),(7,lP 2 0),(13,lI g),(89,lf (.dat Xz (((Q3 a.1 a.2).1).1))),(90,lI ((((Q3 a.1 a.2).1).1).length:Int)),(91,lI (k:Int))],[bx 0 28 [.dat Qj a.1.1,.dat Qd a.1.2.1,.dat Qq a.1.2.2],bx 1 48 [.dat Qj a.2.1,.dat Zk a.2.2],bx 2 54 [.dat Xz (((Q3 a.1 a.2).1).1),.dat ZM (((Q3 a.1 a.2).1).2.1),.dat ZM (((Q3 a.1 a.2).1).2.2)]]⟩) ⟨0,0,aL _,rfl,rfl,rfl⟩ ?_ ?_
 exact wo []
 rintro m_ t ⟨k,g,b6,b7,hf,rfl⟩
 have c4:=QA1 (c:=a.1) (n:=a.2) (k:=k) (S:=((Q3 a.1 a.2).1).1) s
 refine w4 ?_
 cases l:(decide ((k:Int)<((((Q3 a.1 a.2).1).1).length:Int)))
 have A:=ab l
 refine w3 ?_
 refine Q5 ?_
 have a3:k=((Q3 a.1 a.2).1).1.length:=by omega
 have a1:g=(((Q3 a.1 a.2).1).2.1.length:Int):=by rw[hf,a3,← z.fl]
 refine w7 ?_
 have J:(!decide (g=((((Q3 a.1 a.2).1).2.1).length:Int)))=false:=XW (ay a1)
 try rw[J]
 refine w2 ?_
 exact Yf (J5 _ rfl)<|wo []
 have A:=aa l
 refine w6 ?_
 obtain ⟨b,R⟩:=gx (((Q3 a.1 a.2).1).1) k
 have F:=R
 obtain ⟨N,O,a6⟩:=QA2 Y z F
 obtain ⟨c2,c3,_⟩:=WL (c:=a.1) (n:=a.2) (b:=b) (m:=a.2.2.length)
 have c6:(Vb a.1 a.2 b).1.length=(YE a.1 a.2 b a.2.2.length).length:=by rw[N]
 have b8:(Vb a.1 a.2 b).2.length=(X3 a.1 a.2 b a.2.2.length).length:=by rw[O]
 have P:=fun h:(((Q3 a.1 a.2).1).2.1.length:Int)≤6000=>QxT z s h6 h (ae.1 F).1
 refine w2 ?_
 refine lc (xal 11 QM YJ)<|w7 ?_
 refine lc (dK (Qbu a.1 a.2 b).frozenG QqY)<|w8 ?_
 refine Q5<|w3 ?_
 refine lc (dK (JV ((Q3 a.1 a.2).1) (k:Int)).frozenG QqZ)<|w6 ?_
 refine Xc (fun t=>t=⟨[(1,lf (.dat QP e)),(5,lP 0 0),(6,lP 1 0),(7,lP 2 0),(13,lI g),(14,lI (k:Int)),(16,lf (.dat Xz ((Vb a.1 a.2 b).1))),(17,lf (.dat Qv ((Vb a.1 a.2 b).2))),(89,lf (.dat Xz (((Q3 a.1 a.2).1).1))),(90,lI ((((Q3 a.1 a.2).1).1).length:Int)),(91,lI (k:Int))],[bx 0 28 [.dat Qj a.1.1,.dat Qd a.1.2.1,.dat Qq a.1.2.2],bx 1 48 [.dat Qj a.2.1,.dat Zk a.2.2],bx 2 54 [.dat Xz (((Q3 a.1 a.2).1).1),.dat ZM (((Q3 a.1 a.2).1).2.1),.dat ZM (((Q3 a.1 a.2).1).2.2)]]⟩) ?_ fun E=> ?_
 rintro t rfl
 refine w3 ?_
 refine alL 137 fun _=> ?_
 refine w4 ?_
 refine lp0 (((Vb a.1 a.2 b).1).length) (fun i=>⟨[(1,lf (.dat QP e)),(5,lP 0 0),(6,lP 1 0),(7,lP 2 0),(13,lI g),(14,lI (k:Int)),(16,lf (.dat Xz ((Vb a.1 a.2 b).1))),(17,lf (.dat Qv ((Vb a.1 a.2 b).2))),(89,lf (.dat Xz (((Q3 a.1 a.2).1).1))),(90,lI ((((Q3 a.1 a.2).1).1).length:Int)),(91,lI (k:Int)),(137,lf (.dat Xz ((Vb a.1 a.2 b).1))),(138,lI (((Vb a.1 a.2 b).1).length:Int)),(139,lI (i:Int))],[bx 0 28 [.dat Qj a.1.1,.dat Qd a.1.2.1,.dat Qq a.1.2.2],bx 1 48 [.dat Qj a.2.1,.dat Zk a.2.2],bx 2 54 [.dat Xz (((Q3 a.1 a.2).1).1),.dat ZM (((Q3 a.1 a.2).1).2.1),.dat ZM (((Q3 a.1 a.2).1).2.2)]]⟩) ?_ fun i _=> ?_
 exact wo []
 refine w4 ?_
 cases o:(decide ((i:Int)<(((Vb a.1 a.2 b).1).length:Int)))
 have B:=ab o
 refine w9 ?_
 refine Qc<|w4 ?_
 exact Qc<|Zb ⟨k+1,(g+(((Vb a.1 a.2 b).1).length:Int)),by omega,rfl,(by rw[Qvc F];omega),rfl⟩ (by omega)<|wo []
 have B:=aa o
 refine w6 ?_
 obtain ⟨y,T⟩:=gx ((Vb a.1 a.2 b).1) i
 have X:(YE a.1 a.2 b a.2.2.length)[i]? =some y:=by rw[← N];exact T
 have c5:=QuG z F X
 refine w2 ?_
 refine lc (xal 12 QM YJ)<|w4 ?_
 refine Q5<|w6 ?_
 refine alL 148 fun _=> ?_
 refine w3 ?_
 have K:(decide (((((Q3 a.1 a.2).1).2.1).length:Int)≤(g+(i:Int))))=false:=aj (by omega)
 try rw[K]
 refine w8 ?_
 obtain ⟨v,U⟩:=gx (((Q3 a.1 a.2).1).2.1) ((g+(i:Int)).toNat)
 obtain ⟨a7,a8,c8,a9⟩:=QxW z F X hf U
 refine w2 ?_
 refine lc (xal 13 QI VM)<|w2 ?_
 obtain ⟨w,V⟩:=gx ((Vb a.1 a.2 b).2) i
 have b1:w=v.2.1:=by have d:=V;rw[O,a8] at d;exact (bD d).symm
 obtain ⟨D,W⟩:=gx (((Q3 a.1 a.2).1).1) ((v.2.2).toNat)
 have a5:D=y:=bD (W.symm.trans a9)
 have a4:Ty.beq QM D y=true:=by rw[a5,Y1]
 apply dW (i3 158 _ _ _ (io 161 (lB false)::i7 162 _ _ _ _ _ _ _ (io 169 (lB false)::i4 170 _ _ _ _ (io 174 (lB false)::i7 175 _ _ _ _ _ _ _ (io 182 (lB false)::i9 183 _ _ _ _ _ _ _ _ _ [io 192 (lB false),io 193 _]))))) [0,0,3,0,0,0,0,96,224,96,96,0,0,0,0,0,0,0,0,0,0,1572864,1572864,1572864,0,0,0,0,0,402653184,402653184,0,0,8455716864,0,0]
 refine z3 ?_
 refine zz (fun _ d=>ac (Qz (XW (ay a7)) (Vk (d.v rfl) (d.v rfl) rfl)) rfl)<|z7 ?_
 refine zz (fun _ d=>day rfl (d.k rfl) (Qz (XW (ay b1.symm)) (Vk (d.v rfl) (d.v rfl) rfl)) rfl)<|z4 ?_
 refine zz (fun _ d=>day rfl (d.k rfl) (Qz (aj (by omega)) (Qfd (d.v rfl) (Qn rfl) rfl)) rfl)<|z7 ?_
 refine zz (fun _ d=>day rfl (d.k rfl) (Qz (aj (by omega)) (Qfa (d.v rfl) (d.v rfl) rfl)) rfl)<|z9 ?_
 exact zz (fun _ d=>day rfl (d.k rfl) (Qz (XW (a4)) (WX Qf7 Qf5 (d.w rfl) (d.w rfl) (p:=D) (q:=y) rfl rfl rfl)) rfl)<|y1
 refine w6 ?_
 exact Qc<|l0_<|wo []
 refine w5 ?_
 have L:(decide (GoP a.1 a.2∧Wm a.1 a.2 b))=true:=a6
 try rw[L]
 refine w7 ?_
 have M:(!decide ((((Vb a.1 a.2 b).1).length:Int)=(((Vb a.1 a.2 b).2).length:Int)))=false:=XW (ay (by omega))
 try rw[M]
 refine w5 ?_
 cases r:(decide (((((Q3 a.1 a.2).1).2.1).length:Int)≤6000))
 have C:=ab r
 refine w3 ?_
 iterate 6 refine Qf rfl rfl rfl ?_ rfl
 refine w6 ?_
 exact Yf (E _ rfl)<|wo []
 have C:=aa r
 refine w3 ?_
 cases b4:((Uy ((Q3 a.1 a.2).1) (k:Int)).2)
 refine w15 ?_
 refine fqB Z ?_
 ·(exfalso;have d:=P (by omega);simp_all;done)
 refine w5 ?_
 refine lgy rfl rfl (ZG (Qa rfl) (Qa rfl) rfl YY)<|w4 ?_
 cases b5:((decide ((((Uy ((Q3 a.1 a.2).1) (k:Int)).1).length:Int)=0))==(decide ((k:Int)=0)))
 refine w5 ?_
 refine fqB Z ?_
 ·(exfalso;have d:=P (by omega);simp_all;done)
 refine w2 ?_
 exact Yf (E _ rfl)<|wo []
 refine w4 ?_
 exact fe_ Z
end Go.Proofs.YtjfpbcmfbnnooaaGreat
