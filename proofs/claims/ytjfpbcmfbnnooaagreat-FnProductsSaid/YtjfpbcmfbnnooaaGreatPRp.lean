import Derived.Test.YtjfpbcmfbnnooaaGreatPMa
import Derived.Shelf.Strings.Repeat
set_option linter.all false
namespace Go.Proofs.YtjfpbcmfbnnooaaGreat
open Go.RowKit Tryz
set_option maxRecDepth 100000
set_option maxHeartbeats 4000000
def Yy (v:BA)(p:DPn):Bool:= !(decide (bAt v p.1=49)==p.2)
def pnA (x:DWr)(i:Nat):DPn:=(x.2.2.1[i]?).getD (0,false)
def nxX (n:DNl)(v:BA)(i:Int)(x:DWr):Bool:=
 if x.2.1=2 then x.2.2.1.all fun p=>Yy v p else if x.2.1=3 then x.2.2.1.any fun p=>Yy v p
 else if x.2.1=4 then (if (Yy v (pnA x 0)==Yy v (pnA x 1))=true then decide (bAt v i=49) else Yy v (pnA x 0))
 else if x.2.1=5 then x.2.2.2.any fun c=>ZK c (v.extract 0 n.1.length) else decide (bAt v i=49)
def nxW (n:DNl)(v:BA)(i:Int):Bool:=match n.2[i.toNat]? with
 | some x=>nxX n v i x
 | none=>false
def exW (n:DNl)(v:BA)(i:Int):Bool:= !(nxW n v i==decide (bAt v i=49))
def Ur (n:DNl)(v:BA)(k:Nat):List Int:=((List.range k).filter fun j:Nat=>exW n v (j:Int)).map fun j:Nat=>(j:Int)
section
variable {n:DNl}{v:BA}{i:Int}{x:DWr}{p q:DPn}{u:UInt8}{k:Nat}{l:List DPn}{b b2:Bool}
def Qvl (a:bAt v p.1=u):(!(decide (u=49)==p.2))=Yy v p:=by unfold Yy;rw[a]
def QdT (a:n.2[i.toNat]? =some x):nxW n v i=nxX n v i x:=by unfold nxW;rw[a]
def QDW (a:QV n)(c:n.2[i.toNat]? =some x)(h0:0≤i):IsW n i x:=by
 have h:=(a.2 _ x c).1.1
 rwa [ce h0] at h
def QzB (hv:Q7 v (n.2.length:Int))(h:Hg (n.2.length:Int) x.2.2.1):∀p∈x.2.2.1,0≤p.1∧p.1<(v.size:Int):=fun p a=>by
 have:=h p a;have:=hv.2;omega
def QuC (h:QaA i x):x.2.1=4→(x.2.2.1.length:Int)=2:=fun e=>(QDs e).1 h
def QtG (g:QV n)(hv:Q7 v (n.2.length:Int))(f:Qqv (n.1.length:Int) x)(e:x.2.1=5):∀c∈x.2.2.2,c.size≤(v.extract 0 n.1.length).size:=fun c a=>by
 have d:=(f.1 e).2.2 c a
 have h:=d.2.1
 have j:=g.1.2.1
 have m:=hv.2
 rw[aR]
 omega
def w_2 (a:n.2[i.toNat]? =some x)(h:x.2.1=2):(!(x.2.2.1.any fun c=> !(Yy v c)))=nxW n v i:=by
 rw[QdT a,nxX,if_pos h,List.all_eq_not_any_not]
def QGN (c:n.2[i.toNat]? =some x)(h:x.2.1=2)(e:b=(x.2.2.1.take k).all fun p=>Yy v p)(a:x.2.2.1.length≤k):b=nxW n v i:=by
 rw[QdT c,nxX,if_pos h,e,aJ a]
def w_3 (a:n.2[i.toNat]? =some x)(h:x.2.1=3):(x.2.2.1.any fun c=>Yy v c)=nxW n v i:=by
 rw[QdT a,nxX,if_neg (by omega),if_pos h]
def QGO (c:n.2[i.toNat]? =some x)(h:x.2.1=3)(e:b=(x.2.2.1.take k).any fun p=>Yy v p)(a:x.2.2.1.length≤k):b=nxW n v i:=by
 rw[QdT c,nxX,if_neg (by omega),if_pos h,e,aJ a]
def QEF (g:n.2[i.toNat]? =some x)(h:x.2.1=4)(d:x.2.2.1[0]? =some p)(f:x.2.2.1[1]? =some q)(e:(Yy v p==Yy v q)=false):Yy v p=nxW n v i:=by
 rw[QdT g,nxX,if_neg (by omega),if_neg (by omega),if_pos h]
 have a:pnA x 0=p:=by unfold pnA;rw[d];rfl
 have c:pnA x 1=q:=by unfold pnA;rw[f];rfl
 rw[a,c,e,if_neg (by decide)]
def QEG (j:n.2[i.toNat]? =some x)(h:x.2.1=4)(d:x.2.2.1[0]? =some p)(f:x.2.2.1[1]? =some q)(e:(Yy v p==Yy v q)=true)(g:bAt v i=u):decide (u=49)=nxW n v i:=by
 rw[QdT j,nxX,if_neg (by omega),if_neg (by omega),if_pos h]
 have a:pnA x 0=p:=by unfold pnA;rw[d];rfl
 have c:pnA x 1=q:=by unfold pnA;rw[f];rfl
 rw[a,c,e,if_pos rfl,g]
def w_5 (a:n.2[i.toNat]? =some x)(h:x.2.1=5):(x.2.2.2.any fun c=>ZK c (v.extract 0 n.1.length))=nxW n v i:=by
 rw[QdT a,nxX,if_neg (by omega),if_neg (by omega),if_neg (by omega),if_pos h]
def w_n (g:n.2[i.toNat]? =some x)(a:¬x.2.1=2)(c:¬x.2.1=3)(d:¬x.2.1=4)(e:¬x.2.1=5)(f:bAt v i=u):decide (u=49)=nxW n v i:=by
 rw[QdT g,nxX,if_neg a,if_neg c,if_neg d,if_neg e,f]
def Qwz {f:DPn→Bool}(c:l[k]? =some p)(e:b=(l.take k).all f)(a:b2=(b&&f p)):b2=(l.take (k+1)).all f:=by
 rw[Qr c,List.all_append,← e,a];simp
def QyD {f:DPn→Bool}(c:l[k]? =some p)(e:b=(l.take k).any f)(a:b2=(b||f p)):b2=(l.take (k+1)).any f:=by
 rw[Qr c,List.any_append,← e,a];simp
def Qtk (hv:Q7 v (n.2.length:Int))(h0:0≤i)(c:i<(n.2.length:Int)):bAt v i=48∨bAt v i=49:=by
 have d:=hv.2
 have a:v[i.toNat]? =some (v[i.toNat]'(by omega)):=cJ _ _ _
 rw[QU a]
 refine hv.1 _ ?_
 rw[bc]
 exact Array.mem_toList_iff.2 (Array.getElem_mem _)
def QFM (a:bAt v i=u)(hb:bAt v i=48∨bAt v i=49):(!decide ((if nxW n v i=true then (49:UInt8) else 48)=u))=exW n v i:=by
 unfold exW
 rw[a]
 rw[a] at hb
 rcases hb with rfl|rfl <;> cases nxW n v i <;> rfl
def QFN (a:bAt v i=u):(!(nxW n v i==decide (u=49)))=exW n v i:=by unfold exW;rw[a]
def QDm (h:exW n v (k:Int)=true):Ur n v k++[(k:Int)]=Ur n v (k+1):=by
 unfold Ur;rw[bk,bg,aT];simp[h]
def QDl (h:exW n v (k:Int)=false):Ur n v k=Ur n v (k+1):=by
 unfold Ur;rw[bk,bg,aT];simp[h]
def QxH:(Ur n v k).length≤k:=by
 unfold Ur
 rw[aC]
 have:=bR (fun j=>exW n v ((j:Nat):Int)) (List.range k)
 rw[dh] at this;exact this
def Qum {e:Bool}(a:e=exW n v (k:Int))(h:e=true):Ur n v k++[(k:Int)]=Ur n v (k+1):=QDm (by rw[← a];exact h)
def Qul {e:Bool}(a:e=exW n v (k:Int))(h:e=false):Ur n v k=Ur n v (k+1):=QDl (by rw[← a];exact h)
end
def XP (p:Int×Bool)(v:BA)(r:0≤p.1∧p.1<(v.size:Int)):FC prog 286 [(true,[dI p.1,dB p.2]),(false,[dS v])] [] 0 (QJ (lB (Yy v p))):=by
 refine Ql func286 rfl rfl ntmps286 fun m g j d o f e=>acG 0 0 fun _=>w_ ?_
 refine xbx 0 ?_
 refine w2 ?_
 obtain ⟨u,c⟩:=gs v ((p.1).toNat)
 have h:=QU c
 apply dW (i4 5 _ _ _ _ (io 9 (lB (decide (u=49)))::i2 10 _ _ [io 12 (lB (!((decide (u=49))==p.2))),io 4 _])) [0,1,1,0,0,31,31,0,0]
 refine z4 ?_
 refine zz (fun _ a=>ac (Zf (a.v rfl) (QS 49 rfl) rfl) rfl)<|z2 ?_
 exact zz (fun _ a=>ac (ZG (a.v rfl) (a.v rfl) rfl YY) rfl)<|y1
 refine w_ ?_
 exact fqB g<|Qvl h
def Un (p:Int×Bool)(v:BA)(r:0≤p.1∧p.1<(v.size:Int)):FC prog 253 [(true,[dI p.1,dB p.2]),(false,[dS v])] [] 0 (QJ (lB (Yy v p))):=by
 refine Ql func253 rfl rfl ntmps253 fun m g j d o f e=>acG 0 0 fun _=>w_ ?_
 refine xbx 0 ?_
 refine w2 ?_
 obtain ⟨u,c⟩:=gs v ((p.1).toNat)
 have h:=QU c
 apply dW (i4 5 _ _ _ _ (io 9 (lB (decide (u=49)))::i2 10 _ _ [io 12 (lB (!((decide (u=49))==p.2))),io 4 _])) [0,1,1,0,0,31,31,0,0]
 refine z4 ?_
 refine zz (fun _ a=>ac (Zf (a.v rfl) (QS 49 rfl) rfl) rfl)<|z2 ?_
 exact zz (fun _ a=>ac (ZG (a.v rfl) (a.v rfl) rfl YY) rfl)<|y1
 refine w_ ?_
 exact fqB g<|Qvl h
def Qbv (p:Int×Bool)(v:BA)(f:0≤p.1∧p.1<(v.size:Int)):FC prog 285 [(true,[dI p.1,dB p.2]),(false,[.ptr 0 0])] [bx 0 9 [dS v]] 1 (Is (lB (!(Yy v p))) [bx 0 9 [dS v]]):=by
 refine Ql func285 rfl rfl ntmps285 fun h e g a j d c=>w_ ?_
 refine xbx 1 ?_
 refine w5 ?_
 refine lc (dK (XP p v f) Jf)<|w4 ?_
 exact fi_ [] e ⟨rfl,trivial⟩
theorem Hr (l:Qmb)(v:BA)(w:∀p∈l,0≤p.1∧p.1<(v.size:Int)):FC prog 295 [(false,[.dat XY l]),(false,[.clo 285 [0]])] [bx 0 9 [dS v]] 1 (Is (lI (Zj (fun d:DPn=> !(Yy v d)) l)) [bx 0 9 [dS v]]):=by
 refine Ql func295 rfl rfl ntmps295 fun z h y j A s r=>w6 ?_
 refine alL 6 fun _=> ?_
 refine w4 ?_
 refine lpK l.length (fun k=>NoneTo (fun d:DPn=> !(Yy v d)) l k) (fun k=>⟨[(0,lf (.dat XY l)),(1,lf (.clo 285 [0])),(7,lI (l.length:Int)),(8,lI (k:Int))],[bx 0 9 [dS v]]⟩) (NoneTo.zero) ?_ fun k _ a=> ?_
 exact wo []
 refine w4 ?_
 cases e:(decide ((k:Int)<(l.length:Int)))
 have f:=ab e
 refine w7 ?_
 have m:((-1):Int)=(Zj (fun d:DPn=> !(Yy v d)) l):=by
  first|exact (a.no (by omega)).symm
 exact fi_ [] h ⟨rfl,trivial⟩ (h0:=by rw[← m] <;> rfl)
 have f:=aa e
 refine w12 ?_
 obtain ⟨g,c⟩:=gx l k
 refine w2 ?_
 refine lc (Y3 (args0:=[(true,[dI g.1,dB g.2])]) (caps:=[0]) 1 [(0,0)] (Qbv g v (w _ (ah c))) Qng rfl (Qa rfl) rfl rfl ⟨_,_,rfl,(Qm rfl),rfl⟩ ⟨rfl,trivial⟩ rfl ⟨trivial,trivial⟩ (nlr rfl))<|w_ ?_
 cases t:(Yy v g)
 refine w6 ?_
 have o:((k:Int):Int)=(Zj (fun d:DPn=> !(Yy v d)) l):=by
  exact (a.at c (by simp[*])).symm
 exact fi_ [] h ⟨rfl,trivial⟩ (h0:=by rw[o] <;> rfl)
 refine w6 ?_
 exact Qc<|lK_ (a.step c (by simp[*]))<|wo []
def Kr (l:Qmb)(v:BA)(o:∀p∈l,0≤p.1∧p.1<(v.size:Int)):FC prog 248 [(false,[.dat XY l]),(false,[.clo 285 [0]])] [bx 0 9 [dS v]] 1 (Is (lB (l.any (fun a:DPn=> !(Yy v a)))) [bx 0 9 [dS v]]):=by
 refine Ql func248 rfl rfl ntmps248 fun j g h c m f e=>w6 ?_
 refine lc (dP 1 [] (Hr l v (by omega)) Qbn)<|w4 ?_
 have d:(decide (0≤(Zj (fun a:DPn=> !(Yy v a)) l)):Bool)=(l.any (fun a:DPn=> !(Yy v a))):=by
  exact WI _ _
 exact fi_ [] g ⟨rfl,trivial⟩ (h0:=by rw[d] <;> rfl)
def Qbw (p:Int×Bool)(v:BA)(f:0≤p.1∧p.1<(v.size:Int)):FC prog 287 [(true,[dI p.1,dB p.2]),(false,[.ptr 0 0])] [bx 0 9 [dS v]] 1 (Is (lB (Yy v p)) [bx 0 9 [dS v]]):=by
 refine Ql func287 rfl rfl ntmps287 fun h e g a j d c=>w_ ?_
 refine xbx 1 ?_
 refine w5 ?_
 refine lc (dK (XP p v f) Jf)<|w3 ?_
 exact fi_ [] e ⟨rfl,trivial⟩
theorem Ht (l:Qmb)(v:BA)(w:∀p∈l,0≤p.1∧p.1<(v.size:Int)):FC prog 295 [(false,[.dat XY l]),(false,[.clo 287 [0]])] [bx 0 9 [dS v]] 1 (Is (lI (Zj (fun d:DPn=>Yy v d) l)) [bx 0 9 [dS v]]):=by
 refine Ql func295 rfl rfl ntmps295 fun z h y j A s r=>w6 ?_
 refine alL 6 fun _=> ?_
 refine w4 ?_
 refine lpK l.length (fun k=>NoneTo (fun d:DPn=>Yy v d) l k) (fun k=>⟨[(0,lf (.dat XY l)),(1,lf (.clo 287 [0])),(7,lI (l.length:Int)),(8,lI (k:Int))],[bx 0 9 [dS v]]⟩) (NoneTo.zero) ?_ fun k _ a=> ?_
 exact wo []
 refine w4 ?_
 cases e:(decide ((k:Int)<(l.length:Int)))
 have f:=ab e
 refine w7 ?_
 have m:((-1):Int)=(Zj (fun d:DPn=>Yy v d) l):=by
  first|exact (a.no (by omega)).symm
 exact fi_ [] h ⟨rfl,trivial⟩ (h0:=by rw[← m] <;> rfl)
 have f:=aa e
 refine w12 ?_
 obtain ⟨g,c⟩:=gx l k
 refine w2 ?_
 refine lc (Y3 (args0:=[(true,[dI g.1,dB g.2])]) (caps:=[0]) 1 [(0,0)] (Qbw g v (w _ (ah c))) Qnh rfl (Qa rfl) rfl rfl ⟨_,_,rfl,(Qm rfl),rfl⟩ ⟨rfl,trivial⟩ rfl ⟨trivial,trivial⟩ (nlr rfl))<|w_ ?_
 cases t:(Yy v g)
 refine w6 ?_
 exact Qc<|lK_ (a.step c (by simp[*]))<|wo []
 refine w6 ?_
 have o:((k:Int):Int)=(Zj (fun d:DPn=>Yy v d) l):=by
  exact (a.at c (by simp[*])).symm
 exact fi_ [] h ⟨rfl,trivial⟩ (h0:=by rw[o] <;> rfl)
def Ks (l:Qmb)(v:BA)(o:∀p∈l,0≤p.1∧p.1<(v.size:Int)):FC prog 248 [(false,[.dat XY l]),(false,[.clo 287 [0]])] [bx 0 9 [dS v]] 1 (Is (lB (l.any (fun a:DPn=>Yy v a))) [bx 0 9 [dS v]]):=by
 refine Ql func248 rfl rfl ntmps248 fun j g h c m f e=>w6 ?_
 refine lc (dP 1 [] (Ht l v (by omega)) Qbn)<|w4 ?_
 have d:(decide (0≤(Zj (fun a:DPn=>Yy v a) l)):Bool)=(l.any (fun a:DPn=>Yy v a)):=by
  exact WI _ _
 exact fi_ [] g ⟨rfl,trivial⟩ (h0:=by rw[d] <;> rfl)
def Kv (n:Ua)(v:BA)(i:Int)(z:QV n)(hv:Q7 v (n.2.length:Int))(hi:0≤i∧i<(n.2.length:Int)):FC prog 234 [(true,[.dat Qj n.1,.dat Zk n.2]),(false,[dS v]),(false,[dI i])] [] 0 (QJ (lB (nxW n v i))):=by
 have K:=hv.2
 have J:=z.1.2.1
 refine Ql func234 rfl rfl ntmps234 fun M e L F N H G=>acI 2 fun _=>w_ ?_
 refine xbx 0 ?_
 refine xbx 1 ?_
 refine w6 ?_
 obtain ⟨f,C⟩:=gx n.2 ((i).toNat)
 have a:=C
 obtain ⟨w,A,y⟩:=QDW z a hi.1
 have r:=QzB hv A
 have I:=QuC y
 refine w2 ?_
 refine lc (xal 2 Zm Xa)<|w12 ?_
 refine cd_ (fun _ _=> ?_) fun _ _=> ?_
 refine w4 ?_
 refine cd_ (fun _ _=> ?_) fun _ _=> ?_
 refine w4 ?_
 refine cd_ (fun _ _=> ?_) fun _ _=> ?_
 refine w4 ?_
 refine cd_ (fun _ _=> ?_) fun _ _=> ?_
 refine w5 ?_
 obtain ⟨u,g⟩:=gs v ((i).toNat)
 have B:=QU g
 refine w_ ?_
 refine lc (Zf (Qa rfl) (QS 49 rfl) rfl)<|w3 ?_
 refine fqB e ?_
 exact w_n a ‹_› ‹_› ‹_› ‹_› B
 apply dW (i6 48 _ _ _ _ _ _ [io 54 (lf (dS (v.extract 0 ((n.1.length:Int)).toNat))),io 55 (lB (f.2.2.2.any (fun c=>ZK c (v.extract 0 ((n.1.length:Int)).toNat)))),io 6 _]) [0,0,3,7,7,7,3,0,0]
 refine z6 ?_
 exact zz (fun _ d=>ac (show Does _ _ _ _ (St.put _ 54 (lf (dS (v.extract 0 ((n.1.length:Int)).toNat)))) from QT (l:=none) (h:=(some (n.1.length:Int))) (d.v rfl) (by exact trivial) (by exact (d.v rfl)) Yd rfl (by first|omega|(simp only[aq,ap];omega)) (by first|omega|(simp only[aq,ap];omega)) (by first|omega|(simp only[aq,ap];omega))) rfl)<|zz (fun _ d=>ac (dK (Qf8 f.2.2.2 (v.extract 0 ((n.1.length:Int)).toNat) (QtG z hv w ‹_›)) Qmv) rfl)<|y1
 refine w_ ?_
 refine fqB e ?_
 exact w_5 a ‹_›
 obtain ⟨D,s⟩:=gx f.2.2.1 0
 have m:=s
 apply dW (i5 31 _ _ _ _ _ [io 36 (lB (Yy v D)),io 8 _]) [0,0,0,0,15,0,0]
 refine z5 ?_
 exact zz (fun _ d=>ac (dK (XP D v (r _ (ah ‹_›))) Jf) rfl)<|y1
 obtain ⟨E,t⟩:=gx f.2.2.1 1
 have o:=t
 apply dW (i6 37 _ _ _ _ _ _ [io 43 (lB (Yy v E)),io 44 (lB (!((Yy v D)==(Yy v E))))]) [0,1,1,1,1,31,1,0]
 refine z6 ?_
 exact zz (fun _ d=>ac (dK (XP E v (r _ (ah ‹_›))) Jf) rfl)<|zz (fun _ d=>ac (ZG (d.v rfl) (d.v rfl) rfl YY) rfl)<|zN
 refine cx_ (fun _=> ?_) fun _=> ?_
 refine w5 ?_
 refine fqB e ?_
 exact QEF a ‹_› m o ‹_›
 refine w5 ?_
 obtain ⟨u,j⟩:=gs v ((i).toNat)
 have B:=QU j
 refine w_ ?_
 refine lc (Zf (Qa rfl) (QS 49 rfl) rfl)<|w3 ?_
 refine fqB e ?_
 exact QEG a ‹_› m o ‹_› B
 refine w3 ?_
 refine lc (Ys ⟨_,_,rfl,(Qa rfl),rfl,rfl⟩ rfl)<|lc (dP 3 [(0,1)] (Ks f.2.2.1 v (by omega)) Qbk)<|w3 ?_
 refine fqB e ?_
 exact w_3 a ‹_›
 refine w3 ?_
 refine lc (Ys ⟨_,_,rfl,(Qa rfl),rfl,rfl⟩ rfl)<|lc (dP 4 [(0,1)] (Kr f.2.2.1 v (by omega)) Qbk)<|w4 ?_
 refine fqB e ?_
 exact w_2 a ‹_›
theorem JK (n:Ua)(v:BA)(i:Int)(I:QV n)(hv:Q7 v (n.2.length:Int))(hi:0≤i∧i<(n.2.length:Int)):FC prog 183 [(true,[.dat Qj n.1,.dat Zk n.2]),(false,[dS v]),(false,[dI i])] [] 0 (QJ (lB (nxW n v i))):=by
 have a0:=hv.2
 have Z:=I.1.2.1
 refine Ql func183 rfl rfl ntmps183 fun O_ r a1 T X_ V U=>acI 2 fun _=>w_ ?_
 refine xbx 0 ?_
 refine w6 ?_
 obtain ⟨d,L⟩:=gx n.2 ((i).toNat)
 have e:=L
 obtain ⟨G,J,H⟩:=QDW I e hi.1
 have o:=QzB hv J
 have W:=QuC H
 refine w2 ?_
 refine lc (xal 1 Zm Xa)<|w10 ?_
 refine alL 21 fun _=> ?_
 refine w4 ?_
 refine Qy (fun P S=>∃(k:Nat) (m:Bool) (j:Bool),k≤d.2.2.1.length∧P=d.2.2.1.length - k∧(m=(d.2.2.1.take k).all fun p=>Yy v p)∧(j=(d.2.2.1.take k).any fun p=>Yy v p)∧S=⟨[(1,lf (dS v)),(2,lI i),(3,lP 0 0),(6,lB false),(7,lP 1 0),(8,lB m),(9,lB j),(21,lf (.dat XY d.2.2.1)),(22,lI (d.2.2.1.length:Int)),(23,lI (k:Int))],[bx 0 48 [.dat Qj n.1,.dat Zk n.2],bx 1 147 [dS d.1,dI d.2.1,.dat XY d.2.2.1,.dat Qd d.2.2.2]]⟩) ⟨0,true,false,aL _,rfl,rfl,rfl,rfl⟩ ?_ ?_
 exact wo []
 rintro P S ⟨k,m,j,X,Y,f,g,rfl⟩
 refine w4 ?_
 cases t:(decide ((k:Int)<(d.2.2.1.length:Int)))
 have w:=ab t
 refine w13 ?_
 refine cd_ (fun _ _=> ?_) fun _ _=> ?_
 refine w4 ?_
 refine cd_ (fun _ _=> ?_) fun _ _=> ?_
 refine w4 ?_
 refine cd_ (fun _ _=> ?_) fun _ _=> ?_
 refine w4 ?_
 refine cd_ (fun _ _=> ?_) fun _ _=> ?_
 refine w5 ?_
 obtain ⟨u,y⟩:=gs v ((i).toNat)
 have K:=QU y
 refine w_ ?_
 refine lc (Zf (Qa rfl) (QS 49 rfl) rfl)<|w3 ?_
 refine fqB r ?_
 exact w_n e ‹_› ‹_› ‹_› ‹_› K
 obtain ⟨Q,C⟩:=gx d.2.2.1 0
 have A:=C
 obtain ⟨R,D⟩:=gx d.2.2.1 1
 have B:=D
 apply dW (i5 59 _ _ _ _ _ (io 64 (lB (Yy v Q))::i5 65 _ _ _ _ _ (io 70 (lB (Yy v R))::i2 13 _ _ []))) [0,0,0,0,15,0,63,63,63,63,1023,0,0,0]
 refine z5 ?_
 refine zz (fun _ s=>ac (dK (Un Q v (o _ (ah ‹_›))) Qbl) rfl)<|z5 ?_
 exact zz (fun _ s=>ac (dK (Un R v (o _ (ah ‹_›))) Qbl) rfl)<|y2
 refine w3 ?_
 refine lc (ZG (Qa rfl) (Qa rfl) rfl YY)<|w_ ?_
 refine cx_ (fun _=> ?_) fun _=> ?_
 refine w5 ?_
 refine fqB r ?_
 exact QEF e ‹_› A B ‹_›
 refine w5 ?_
 obtain ⟨u,z⟩:=gs v ((i).toNat)
 have K:=QU z
 refine w_ ?_
 refine lc (Zf (Qa rfl) (QS 49 rfl) rfl)<|w3 ?_
 refine fqB r ?_
 exact QEG e ‹_› A B ‹_› K
 apply dW (i6 49 _ _ _ _ _ _ [io 55 (lf (dS (v.extract 0 ((n.1.length:Int)).toNat))),io 56 (lB (d.2.2.2.any (fun c=>ZK c (v.extract 0 ((n.1.length:Int)).toNat)))),io 6 _]) [0,0,3,7,7,7,3,0,0]
 refine z6 ?_
 exact zz (fun _ s=>ac (show Does _ _ _ _ (St.put _ 55 (lf (dS (v.extract 0 ((n.1.length:Int)).toNat)))) from QT (l:=none) (h:=(some (n.1.length:Int))) (s.v rfl) (by exact trivial) (by exact (s.v rfl)) Yd rfl (by first|omega|(simp only[aq,ap];omega)) (by first|omega|(simp only[aq,ap];omega)) (by first|omega|(simp only[aq,ap];omega))) rfl)<|zz (fun _ s=>ac (dK (QaP d.2.2.2 (v.extract 0 ((n.1.length:Int)).toNat) (QtG I hv G ‹_›)) QfG) rfl)<|y1
 refine w_ ?_
 refine fqB r ?_
 exact w_5 e ‹_›
 refine w5 ?_
 refine fqB r ?_
 exact QGO e ‹_› g (by omega)
 refine w5 ?_
 refine fqB r ?_
 exact QGN e ‹_› f (by omega)
 have w:=aa t
 refine w5 ?_
 obtain ⟨F,E⟩:=gx d.2.2.1 k
 have a:=E
 refine w2 ?_
 refine lc (xal 2 Q0 Qaz)<|w5 ?_
 refine lc (dK (Un F v (o _ (ah ‹_›))) Qbl)<|w5 ?_
 cases M:(m)
 refine w7 ?_
 cases N:(j)
 refine w3 ?_
 refine Qc<|w4 ?_
 exact Qc<|Zb ⟨k+1,false,(Yy v F),by omega,rfl,(Qwz a f (by clear f g;simp[*])),(QyD a g (by clear f g;simp[*])),rfl⟩ (by omega)<|wo []
 refine w3 ?_
 refine Qc<|w4 ?_
 exact Qc<|Zb ⟨k+1,false,true,by omega,rfl,(Qwz a f (by clear f g;simp[*])),(QyD a g (by clear f g;simp[*])),rfl⟩ (by omega)<|wo []
 refine w7 ?_
 cases O:(j)
 refine w3 ?_
 refine Qc<|w4 ?_
 exact Qc<|Zb ⟨k+1,(Yy v F),(Yy v F),by omega,rfl,(Qwz a f (by clear f g;simp[*])),(QyD a g (by clear f g;simp[*])),rfl⟩ (by omega)<|wo []
 refine w3 ?_
 refine Qc<|w4 ?_
 exact Qc<|Zb ⟨k+1,(Yy v F),true,by omega,rfl,(Qwz a f (by clear f g;simp[*])),(QyD a g (by clear f g;simp[*])),rfl⟩ (by omega)<|wo []
def Xq (n:Ua)(v:BA)(i:Int)(h:QV n)(hv:Q7 v (n.2.length:Int))(hi:0≤i∧i<(n.2.length:Int)):FC prog 182 [(true,[.dat Qj n.1,.dat Zk n.2]),(false,[dS v]),(false,[dI i])] [] 0 (QJ (lB (exW n v i))):=by
 have m:=hv.2
 refine Ql func182 rfl rfl ntmps182 fun r f o c s e d=>acI 2 fun _=>w_ ?_
 refine xbx 0 ?_
 refine w2 ?_
 obtain ⟨u,a⟩:=gs v ((i).toNat)
 have j:=QU a
 apply dW (i3 7 _ _ _ (io 10 (lB (nxW n v i))::io 11 (lf (.dat .u8 (if (nxW n v i) then 49 else 48)))::i4 12 _ _ _ _ [io 6 _])) [0,1,3,0,0,31,63,31,0,0]
 refine z3 ?_
 exact zz (fun _ g=>ac (dK (Kv n v i h hv hi) QfN) rfl)<|zz (fun _ g=>ac (dK (QdR (nxW n v i)) QhQ) rfl)<|y5
 refine w_ ?_
 exact fqB f<|QFM j (Qtk hv hi.1 hi.2)
theorem Qbz (n:Ua)(v:BA)(h:QV n)(hv:Q7 v (n.2.length:Int)):FC prog 111 [(true,[.dat Qj n.1,.dat Zk n.2]),(false,[dS v])] [] 0 (WB 3 .int (Ur n v n.2.length)):=by
 have r:=h.1.2.2
 have z:=hv.2
 refine Ql func111 rfl rfl ntmps111 fun B s A j C o m=>w_ ?_
 refine xbx 0 ?_
 refine w13 ?_
 refine AC.wk (Wk.nilS 1 5 3 .int rfl (Fresh.of rfl) (nlr rfl))<|lp0 n.2.length (fun k=>⟨[(1,lf (dS v)),(2,lP 0 0),(4,lf (.val (.slice none 0 0))),(5,lR 2),(9,lI (n.2.length:Int)),(10,lI (k:Int))],[bx 0 48 [.dat Qj n.1,.dat Zk n.2],ar 2 3 .int (Ur n v k)]⟩) ?_ fun k _=> ?_
 exact wp [(2,1)] ⟨rfl,(Qg (rfl)),trivial⟩
 have w:=QxH (n:=n) (v:=v) (k:=k)
 refine w4 ?_
 cases d:(decide ((k:Int)<(n.2.length:Int)))
 have f:=ab d
 refine w8 ?_
 refine fo_ s ?_
 (congr 1;omega)
 have f:=aa d
 refine w8 ?_
 obtain ⟨u,g⟩:=gs v (((k:Int)).toNat)
 have y:=QU g
 have a:=QFN (n:=n) y
 apply dW (i3 13 _ _ _ (io 16 (lB (nxW n v (k:Int)))::i3 17 _ _ _ [io 20 (lB (decide (u=49))),io 21 (lB (!((nxW n v (k:Int))==(decide (u=49)))))])) [0,1,3,0,15,31,15,15,0]
 refine z3 ?_
 refine zz (fun _ c=>ac (dK (JK n v (k:Int) h hv (by omega)) QfJ) rfl)<|z3 ?_
 exact zz (fun _ c=>ac (Zf (c.v rfl) (QS 49 rfl) rfl) rfl)<|zz (fun _ c=>ac (ZG (c.v rfl) (c.v rfl) rfl YY) rfl)<|zN
 cases t:((nxW n v (k:Int))==(decide (u=49)))
 refine w4 ?_
 refine lc (dBs 3 (e:= .int) Ye)<|lc (dA 4 Xg)<|w_ ?_
 refine Qc<|w4 ?_
 exact Qc<|l0_<|wp [(2,4)] ⟨rfl,(Qg ((by first|exact Qum a (by simp[*])|exact Qul a (by simp[*])))),trivial⟩
 refine w6 ?_
 exact Qc<|l0_<|wp [] ⟨rfl,(Qg ((by first|exact Qum a (by simp[*])|exact Qul a (by simp[*])))),trivial⟩
def Qlk:Go.Shelf.Ren:=⟨fun|105=>233|212=>232|99=>161|165=>177|166=>178|170=>284|169=>179|263=>282|264=>283|206=>235|240=>251|241=>252|276=>296|277=>297|n=>n,fun|9=>9|3=>3|4=>4|20=>20|0=>0|46=>263|109=>264|5=>5|72=>218|76=>222|51=>305|146=>306|53=>84|148=>308|70=>216|37=>22|75=>221|127=>282|164=>321|80=>224|n=>n,fun|n=>n⟩
def QGy:Go.Proofs.Lays.n105 prog Qlk:={
 mixed:=by kernel_rfl,
 f99:=func161.trans (congrArg some (by kernel_rfl)),
 f105:=func233.trans (congrArg some (by kernel_rfl)),
 f165:=func177.trans (congrArg some (by kernel_rfl)),
 f166:=func178.trans (congrArg some (by kernel_rfl)),
 f169:=func179.trans (congrArg some (by kernel_rfl)),
 f170:=func284.trans (congrArg some (by kernel_rfl)),
 f206:=func235.trans (congrArg some (by kernel_rfl)),
 f212:=func232.trans (congrArg some (by kernel_rfl)),
 f240:=func251.trans (congrArg some (by kernel_rfl)),
 f241:=func252.trans (congrArg some (by kernel_rfl)),
 f263:=func282.trans (congrArg some (by kernel_rfl)),
 f264:=func283.trans (congrArg some (by kernel_rfl)),
 f276:=func296.trans (congrArg some (by kernel_rfl)),
 f277:=func297.trans (congrArg some (by kernel_rfl)),
 t0:=underlying0,
 a0:=isAgg0,
 z0:=sizeOf0,
 v0:=zeroValue0,
 t3:=underlying3,
 a3:=isAgg3,
 z3:=sizeOf3,
 v3:=zeroValue3,
 t4:=underlying4,
 a4:=isAgg4,
 z4:=sizeOf4,
 v4:=zeroValue4,
 t5:=underlying5,
 a5:=isAgg5,
 z5:=sizeOf5,
 v5:=zeroValue5,
 t9:=underlying9,
 a9:=isAgg9,
 z9:=sizeOf9,
 v9:=zeroValue9,
 t20:=underlying20,
 a20:=isAgg20,
 z20:=sizeOf20,
 v20:=zeroValue20,
 t37:=underlying22,
 a37:=isAgg22,
 z37:=sizeOf22,
 v37:=zeroValue22,
 t46:=underlying263,
 a46:=isAgg263,
 z46:=sizeOf263,
 v46:=zeroValue263,
 t51:=underlying305,
 a51:=isAgg305,
 z51:=sizeOf305,
 v51:=zeroValue305,
 t53:=underlying84,
 a53:=isAgg84,
 z53:=sizeOf84,
 v53:=zeroValue84,
 t70:=underlying216,
 a70:=isAgg216,
 z70:=sizeOf216,
 v70:=zeroValue216,
 t72:=underlying218,
 a72:=isAgg218,
 z72:=sizeOf218,
 v72:=zeroValue218,
 t75:=underlying221,
 a75:=isAgg221,
 z75:=sizeOf221,
 v75:=zeroValue221,
 t76:=underlying222,
 a76:=isAgg222,
 z76:=sizeOf222,
 v76:=zeroValue222,
 t109:=underlying264,
 a109:=isAgg264,
 z109:=sizeOf264,
 v109:=zeroValue264,
 t127:=underlying282,
 a127:=isAgg282,
 z127:=sizeOf282,
 v127:=zeroValue282,
 t146:=underlying306,
 a146:=isAgg306,
 z146:=sizeOf306,
 v146:=zeroValue306,
 t148:=underlying308,
 a148:=isAgg308,
 z148:=sizeOf308,
 v148:=zeroValue308,
 t164:=underlying321,
 a164:=isAgg321,
 z164:=sizeOf321,
 v164:=zeroValue321}
def QGz:Go.Proofs.Builder.Extra prog Qlk:={
 sizeBuilder:=by kernel_rfl,
 liesBuilder:=by kernel_rfl,
 t5:=underlying5,
 a5:=isAgg5,
 z5:=sizeOf5,
 v5:=zeroValue5,
 infoByte:=by kernel_rfl,
 cellsByte:=by kernel_rfl,
 sizeByte:=by kernel_rfl,
 neB5:=by decide}
def rpB (s:BA)(c:Nat):BA:=⟨(Lib.repeatL s.data.toList c).toArray⟩
def Qao (s:BA)(c:Nat):(rpB s c).size=c*s.size:=by
 show (Lib.repeatL s.data.toList c).toArray.size=_
 rw[List.size_toArray,Lib.repeatL_length,Array.length_toList];rfl
def Qrl (s:BA)(c:Int)(i:0≤c∧c≤1000000)(k:s.size≤1000):FC prog 233 [(false,[dS s]),(false,[dI c])] [] 0 (QJ (lf (dS (rpB s c.toNat)))):=QsM fun q w z h=>by
 obtain ⟨v,n,rfl,⟨t,a,f⟩,y,o,rfl,⟨u,b,g⟩,rfl⟩:=h
 simp only[aN,and_true] at a b
 subst a
 subst b
 obtain ⟨rfl,l⟩:=LVR.str f
 obtain ⟨rfl,_⟩:=LVR.int g
 obtain ⟨m,rfl⟩:=Int.eq_ofNat_of_zero_le i.1
 have r:s.size*m≤1000*1000000:=cO k (by omega)
 refine Calls.mono (Any.strings_Repeat QGy QGz s m w (by omega) (by omega)) fun e p j=> ?_
 obtain ⟨rfl,d⟩:=j
 have d:Nw w p:=d
 exact ⟨_,rfl,d,_,rfl,Qeu (x:=rpB s m) (by rw[Qao,Nat.mul_comm];unfold maxLen;omega)⟩
end Go.Proofs.YtjfpbcmfbnnooaaGreat
