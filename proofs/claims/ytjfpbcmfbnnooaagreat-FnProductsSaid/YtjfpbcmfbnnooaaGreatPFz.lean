import Derived.Test.YtjfpbcmfbnnooaaGreatPVa
import Derived.Shelf.Lays2
import Derived.Shelf.Slices.In.CompactI
set_option linter.all false
namespace Go.Proofs.YtjfpbcmfbnnooaaGreat
open Go.RowKit Tryz
set_option maxRecDepth 100000
set_option maxHeartbeats 4000000
section
variable {c:DSg}{a:DAr}{x y:BA}{k:Nat}
def Qoz (h:¬(0≤a.1∧a.1≤(c.2.1.length:Int) - 1)):¬XS c a:=fun g=>h g.1
def QoA (h:¬(0≤a.2.2.2∧a.2.2.2≤(c.2.1.length:Int) - 1)):¬XS c a:=fun g=>h g.2.1
def QoB (h:¬K0 (c.1.length:Int) (a.2.1,a.2.2.1)):¬XS c a:=fun g=>h g.2.2.1
def QoC (b:c.2.1[a.1.toNat]? =some x)(d:c.2.1[a.2.2.2.toNat]? =some y)(h:¬Fit a x y):¬XS c a:=fun g=>h (by have:=g.2.2.2;rwa [ZH b,ZH d] at this)
def Qz3 (b:0≤a.1∧a.1≤(c.2.1.length:Int) - 1)(d:0≤a.2.2.2∧a.2.2.2≤(c.2.1.length:Int) - 1)(e:K0 (c.1.length:Int) (a.2.1,a.2.2.1))(f:c.2.1[a.1.toNat]? =some x)(g:c.2.1[a.2.2.2.toNat]? =some y)(h:Fit a x y):XS c a:=
 ⟨b,d,e,by rw[ZH f,ZH g];exact h⟩
end
def UF (c:Yw)[∀c,Decidable (SgOk c)]:FC prog 67 [(true,[.dat Qj c.1,.dat Qd c.2.1,.dat Qq c.2.2])] [] 0 (QJ (lB (decide (SgOk c)))):=by
 classical
 refine Ql func67 rfl rfl ntmps67 fun X n W T Y V U=>w_ ?_
 refine xbx 0 ?_
 refine w6 ?_
 refine lc (dK (Ug c.1) QhP)<|w2 ?_
 cases C:(decide (Z4 c.1))
 have D:=ab C
 refine w16 ?_
 refine w2 ?_
 exact fqB n<|QvG ‹_›
 have D:=aa C
 refine w2 ?_
 refine alL 14 fun _=> ?_
 refine w_ ?_
 refine lgy rfl rfl (dK (QE (c.2.1.length:Int) 1 300) Za)<|w3 ?_
 cases E:(decide (1≤(c.2.1.length:Int)∧(c.2.1.length:Int)≤300))
 have F:=ab E
 refine w11 ?_
 exact fqB n<|QvH ‹_›
 have F:=aa E
 refine w2 ?_
 refine alL 21 fun _=> ?_
 refine w4 ?_
 refine cd_ (fun _ _=> ?_) fun _ _=> ?_
 refine w16 ?_
 refine lpK c.2.1.length (fun k=>∀j,j<k→∀x,c.2.1[j]? =some x→Q7 x (c.1.length:Int)) (fun k=>⟨[(1,lP 0 0),(3,lI ((c.2.1.length:Int) - 1)),(30,lf (.dat Qd c.2.1)),(31,lI (c.2.1.length:Int)),(32,lI (k:Int))],[bx 0 28 [.dat Qj c.1,.dat Qd c.2.1,.dat Qq c.2.2]]⟩) ((fun j R=>absurd R (aS j))) ?_ fun k _ O=> ?_
 exact wo []
 refine w4 ?_
 cases G:(decide ((k:Int)<(c.2.1.length:Int)))
 have H:=ab G
 refine w11 ?_
 refine lpK c.2.2.length (fun i=>∀j,j<i→∀a,c.2.2[j]? =some a→XS c a) (fun i=>⟨[(1,lP 0 0),(3,lI ((c.2.1.length:Int) - 1)),(44,lf (.dat Qq c.2.2)),(45,lI (c.2.2.length:Int)),(46,lI (i:Int))],[bx 0 28 [.dat Qj c.1,.dat Qd c.2.1,.dat Qq c.2.2]]⟩) ((fun j R=>absurd R (aS j))) ?_ fun i _ P=> ?_
 exact wo []
 refine w4 ?_
 cases p:(decide ((i:Int)<(c.2.2.length:Int)))
 have t:=ab p
 refine w3 ?_
 apply dW (i5 92 _ _ _ _ _ [io 97 (lf (.dat Qg8 (ZT c.2.2))),io 98 (lf (.dat Qv (Q6 (c.2.1.length:Int).toNat (ZT c.2.2)))),io 99 (lB ((Q6 (c.2.1.length:Int).toNat (ZT c.2.2)).any (fun y=>decide ((-1)=y)))),io 100 _,io 2 _]) [0,0,0,7,7,7,0,0,0,0]
 refine z5 ?_
 exact zz (fun _ b=>ac (dK (Qdb c.2.2 (by omega)).frozen Qmu) rfl)<|zz (fun _ b=>ac (dK (US (c.2.1.length:Int) (ZT c.2.2) 0 (by omega) (QgZ (fun a Q=>We (X7 P (by omega) a Q))) (by simp only[ZT,aC];omega) rfl).frozen QfF) rfl)<|zz (fun _ b=>ac (dK (Uj (Q6 (c.2.1.length:Int).toNat (ZT c.2.2)) (-1)) Qmt) rfl)<|y2
 refine w_ ?_
 exact fqB n<|(QkD (by omega) (QgZ (fun a Q=>We (X7 P (by omega) a Q)))).trans (QvF ‹_› ‹_› ‹_› (X7 O (by omega)) (X7 P (by omega)))
 have t:=aa p
 refine w5 ?_
 obtain ⟨ar,f⟩:=gx c.2.2 i
 refine w2 ?_
 refine lc (xal 1 Yi Yp)<|w2 ?_
 cases d:(decide (0≤ar.1∧ar.1≤((c.2.1.length:Int) - 1)))
 have u:=ab d
 apply dW (i3 50 _ _ _ (io 53 (lB false)::i9 54 _ _ _ _ _ _ _ _ _ (i9 63 _ _ _ _ _ _ _ _ _ (i9 72 _ _ _ _ _ _ _ _ _ (i9 81 _ _ _ _ _ _ _ _ _ [io 90 _]))))) [0,0,3,0,0,0,0,0,192,0,0,0,0,0,0,24576,24576,0,253952,253952,253952,0,0,0,0,0,33554432,33554432,234881024,234881024,33554432,33554432,4261412864,4261412864,17146314752,17146314752,4261412864,4261412864,0,0,0]
 refine z3 ?_
 refine zz (fun _ b=>ac (Qz (d) (dK (QE ar.1 0 ((c.2.1.length:Int) - 1)) Za)) rfl)<|z16 ?_
 refine z16 ?_
 exact y5
 refine w5 ?_
 exact fqB n<|QgU f (by first|exact Qoz ‹_› | exact QoA ‹_› | exact QoB ‹_› | exact QoC (x:=l) (y:=m) ‹_› ‹_› ‹_›)
 have u:=aa d
 cases e:(decide (0≤ar.2.2.2∧ar.2.2.2≤((c.2.1.length:Int) - 1)))
 have v:=ab e
 apply dW (i3 50 _ _ _ (io 53 (lB true)::i5 54 _ _ _ _ _ (io 59 (lB false)::i9 60 _ _ _ _ _ _ _ _ _ (i9 69 _ _ _ _ _ _ _ _ _ (i9 78 _ _ _ _ _ _ _ _ _ (i4 87 _ _ _ _ [])))))) [0,0,3,0,0,0,0,0,192,0,0,0,0,0,0,24576,24576,0,253952,253952,253952,0,0,0,0,0,33554432,33554432,234881024,234881024,33554432,33554432,4261412864,4261412864,17146314752,17146314752,4261412864,4261412864,0,0,0]
 refine z3 ?_
 refine zz (fun _ b=>ac (Qz (d) (dK (QE ar.1 0 ((c.2.1.length:Int) - 1)) Za)) rfl)<|z5 ?_
 refine zz (fun _ b=>day rfl (b.k rfl) (Qz (e) (dK (QE ar.2.2.2 0 ((c.2.1.length:Int) - 1)) Za)) rfl)<|z16 ?_
 exact y15
 refine w5 ?_
 exact fqB n<|QgU f (by first|exact Qoz ‹_› | exact QoA ‹_› | exact QoB ‹_› | exact QoC (x:=l) (y:=m) ‹_› ‹_› ‹_›)
 have v:=aa e
 cases g:(decide (K0 (c.1.length:Int) (ar.2.1,ar.2.2.1)))
 have z:=ab g
 apply dW (i3 50 _ _ _ (io 53 (lB true)::i5 54 _ _ _ _ _ (io 59 (lB true)::i7 60 _ _ _ _ _ _ _ (io 67 (ag [dI ar.2.1,dB ar.2.2.1])::i3 68 _ _ _ (io 71 (lB false)::i9 72 _ _ _ _ _ _ _ _ _ (i9 81 _ _ _ _ _ _ _ _ _ [io 90 _])))))) [0,0,3,0,0,0,0,0,192,0,0,0,0,0,0,24576,24576,0,253952,253952,253952,0,0,0,0,0,33554432,33554432,234881024,234881024,33554432,33554432,4261412864,4261412864,17146314752,17146314752,4261412864,4261412864,0,0,0]
 refine z3 ?_
 refine zz (fun _ b=>ac (Qz (d) (dK (QE ar.1 0 ((c.2.1.length:Int) - 1)) Za)) rfl)<|z5 ?_
 refine zz (fun _ b=>day rfl (b.k rfl) (Qz (e) (dK (QE ar.2.2.2 0 ((c.2.1.length:Int) - 1)) Za)) rfl)<|z7 ?_
 refine zz (fun _ b=>day rfl (b.k rfl) (Qh Qaf ⟨_,_,rfl,(b.w rfl),⟨_,_,rfl,(b.w rfl),rfl⟩⟩ (ao.1 rfl) rfl rfl) rfl)<|z3 ?_
 refine zz (fun _ b=>day rfl (b.k rfl) (Qz (g) (dK (Hw (ar.2.1,ar.2.2.1) (c.1.length:Int) (by have:=(‹Z4 c.1›).2.2;omega)) QfE)) rfl)<|z16 ?_
 exact y3
 refine w5 ?_
 exact fqB n<|QgU f (by first|exact Qoz ‹_› | exact QoA ‹_› | exact QoB ‹_› | exact QoC (x:=l) (y:=m) ‹_› ‹_› ‹_›)
 have z:=aa g
 obtain ⟨l,K⟩:=gx c.2.1 ((ar.1).toNat)
 have M:Q7 l (c.1.length:Int)→l.size=c.1.length:=fun h=>by have:=h.2;omega
 have I:c.2.1.length≤k→l.size=c.1.length:=fun h=>M (X7 O h _ (ah K))
 obtain ⟨m,L⟩:=gx c.2.1 ((ar.2.2.2).toNat)
 have N:Q7 m (c.1.length:Int)→m.size=c.1.length:=fun h=>by have:=h.2;omega
 have J:c.2.1.length≤k→m.size=c.1.length:=fun h=>N (X7 O h _ (ah L))
 apply dW (i3 50 _ _ _ (io 53 (lB true)::i5 54 _ _ _ _ _ (io 59 (lB true)::i7 60 _ _ _ _ _ _ _ (io 67 (ag [dI ar.2.1,dB ar.2.2.1])::i3 68 _ _ _ (io 71 (lB true)::i9 72 _ _ _ _ _ _ _ _ _ (i7 81 _ _ _ _ _ _ _ (io 88 (lB (decide (Fit ar l m)))::i2 89 _ _ []))))))) [0,0,3,0,0,0,0,0,192,0,0,0,0,0,0,24576,24576,0,253952,253952,253952,0,0,0,0,0,33554432,33554432,234881024,234881024,33554432,33554432,4261412864,4261412864,17146314752,17146314752,4261412864,4261412864,0,0,0]
 refine z3 ?_
 refine zz (fun _ b=>ac (Qz (d) (dK (QE ar.1 0 ((c.2.1.length:Int) - 1)) Za)) rfl)<|z5 ?_
 refine zz (fun _ b=>day rfl (b.k rfl) (Qz (e) (dK (QE ar.2.2.2 0 ((c.2.1.length:Int) - 1)) Za)) rfl)<|z7 ?_
 refine zz (fun _ b=>day rfl (b.k rfl) (Qh Qaf ⟨_,_,rfl,(b.w rfl),⟨_,_,rfl,(b.w rfl),rfl⟩⟩ (ao.1 rfl) rfl rfl) rfl)<|z3 ?_
 refine zz (fun _ b=>day rfl (b.k rfl) (Qz (g) (dK (Hw (ar.2.1,ar.2.2.1) (c.1.length:Int) (by have:=(‹Z4 c.1›).2.2;omega)) QfE)) rfl)<|z16 ?_
 exact zz (fun _ b=>day rfl (b.k rfl) (dK (Qce ar l m (by have:=I (by omega);have:=J (by omega);omega)) Qms) rfl)<|y2
 cases q:(decide (Fit ar l m))
 have A:=ab q
 refine w5 ?_
 exact fqB n<|QgU f (by first|exact Qoz ‹_› | exact QoA ‹_› | exact QoB ‹_› | exact QoC (x:=l) (y:=m) ‹_› ‹_› ‹_›)
 have A:=aa q
 refine w6 ?_
 exact Qc<|lK_ ((Z5 P f (Qz3 ‹_› ‹_› ‹_› (x:=l) (y:=m) ‹_› ‹_› ‹_›)))<|wo []
 have H:=aa G
 refine w5 ?_
 obtain ⟨o,s⟩:=gx c.2.1 k
 have S:Q7 o (c.1.length:Int)→o.size=c.1.length:=fun h=>by have:=h.2;omega
 refine w9 ?_
 refine lc (dK (Uh o (c.1.length:Int)) Qba)<|w2 ?_
 cases r:(decide (Q7 o (c.1.length:Int)))
 have B:=ab r
 refine w5 ?_
 exact fqB n<|QvJ s ‹_›
 have B:=aa r
 refine w6 ?_
 exact Qc<|lK_ ((Z5 O s ‹_›))<|wo []
 refine w4 ?_
 exact fqB n<|QvI ‹_›
def Hx (s:BA)[Decidable (YP s)]:FC prog 138 [(false,[dS s])] [] 0 (QJ (lf (dB (decide (YP s))))):=QcN fun g w j h=>by
 obtain ⟨v,rfl,d⟩:=h.leaf1
 obtain ⟨rfl,f⟩:=d.str_
 exact (Qgo s w f).mono fun _ _ h=>KS h
def WG (s:BA)[Decidable (YP s)]:FC prog 200 [(false,[dS s])] [] 0 (QJ (lf (dB (decide (YP s))))):=QcN fun g w j h=>by
 obtain ⟨v,rfl,d⟩:=h.leaf1
 obtain ⟨rfl,f⟩:=d.str_
 exact (Qgt s w f).mono fun _ _ h=>KS h
def QGl (a b:UInt8):Bool:=decide (a=b)||(decide (a=48)&&decide (b=43))||(decide (a=43)&&decide (b=49))||(decide (a=49)&&decide (b=45))||(decide (a=45)&&decide (b=48))||(decide (a=43)&&decide (b=45))||(decide (a=45)&&decide (b=43))
def Qy8 (s:BA):Prop:=∀x∈s.toList,x=48∨x=43∨x=49∨x=45
instance (s:BA):Decidable (Qy8 s):=inferInstanceAs (Decidable (∀x∈s.toList,x=48∨x=43∨x=49∨x=45))
def SignsOk (c:DSg)(s:BA):Prop:=Qy8 s∧s.size=c.2.1.length∧SgOk c
instance (c:DSg) (s:BA) [Decidable (SgOk c)]:Decidable (SignsOk c s):=inferInstanceAs (Decidable (_∧_))
def Qzz (c:DSg)(s:BA):Bool:=c.2.2.all fun a=>QGl (bAt s a.1) (bAt s a.2.2.2)
def QFH (s:BA)(a:DAr):Bool:=(decide (bAt s a.1=43)&&(decide (bAt s a.2.2.2=49)||decide (bAt s a.2.2.2=45)))||(decide (bAt s a.1=45)&&(decide (bAt s a.2.2.2=48)||decide (bAt s a.2.2.2=43)))
def okP (c:DSg)(s:BA)[Decidable (SgOk c)]:Bool:=decide (SignsOk c s)&&Qzz c s
def QG5 (as_:List DAr)(q:Int):List DAr:=as_.filter fun a=>decide (a.1=q)
def QGB:BA:=⟨#[48,43,49,45,48]⟩
section
variable {a b x:UInt8}{k i:Nat}{s:BA}{c:DSg}{l:List DAr}{e:DAr}{q:Int}
section
variable [Decidable (SignsOk c s)]
end
def SignsOk.at_ (h:SignsOk c s)(f:e∈c.2.2):(0≤e.1∧e.1<(s.size:Int))∧0≤e.2.2.2∧e.2.2.2<(s.size:Int):=by
 have d:=We (h.2.2.arcs e f)
 rw[h.2.1]
 exact d
end
def DelI {α:Type _}(p:α→Bool)(l0 l:List α)(i j:Int):Prop:=(0≤i∧i<j∧j≤(l.length:Int))∧l.length=l0.length∧l.take i.toNat=(l0.take j.toNat).filter p∧l.drop j.toNat=l0.drop j.toNat
section
variable {α:Type _}{p f:α→Bool}{l0 l:List α}{i j:Int}{x:α}
def QbC (f:α→Bool)(l:List α):(Zj f l= -1∧∀x∈l,f x=false)∨∃(k:Nat) (x:α),Zj f l=(k:Int)∧l[k]? =some x∧f x=true∧NoneTo f l k:=by
 unfold Zj
 cases h:l.findIdx? f with
 | none=>exact .inl ⟨rfl,fun x g=>by simpa using List.findIdx?_eq_none_iff.1 h x g⟩
 | some k=>
  obtain ⟨a,b,c⟩:=bY.1 h
  exact .inr ⟨k,l[k],rfl,ak a,b,fun j e y m=>by
   obtain ⟨n,d⟩:=ae.1 m
   have:=c j e
   rw[d] at this
   simpa using this⟩
def DelI.start (h:¬Zj f l= -1):DelI (fun x=> !f x) l l (Zj f l) (Zj f l+1):=by
 rcases QbC f l with ⟨a,_⟩|⟨k,x,a,d,e,g⟩
 ·exact absurd a h
 ·have o:=(ae.1 d).1
  rw[a]
  refine ⟨by omega,rfl,?_,rfl⟩
  rw[show ((k:Int)+1).toNat=k+1 by omega,show ((k:Int)).toNat=k by omega,Qr d,bg]
  have:([x].filter fun x=> !f x)=[]:=by simp[e]
  rw[this,bH]
  refine (dr.2 fun y m=> ?_).symm
  obtain ⟨n,b⟩:=aG.1 m
  have c:=(ae.1 b).1
  rw[au] at c
  rw[List.getElem?_take_of_lt (by omega)] at b
  rw[g n (by omega) y b];rfl
def DelI.at_ (h:DelI p l0 l i j)(b:l[j.toNat]? =some x):l0[j.toNat]? =some x:=by
 obtain ⟨c,d,e,a⟩:=h
 have:=congrArg (fun l:List α=>l[0]?) a
 simpa [b] using this.symm
def DelI.lt (h:DelI p l0 l i j)(a:l[j.toNat]? =some x):j<(l.length:Int):=by
 have:=(ae.1 a).1
 obtain ⟨b,_⟩:=h
 omega
def DelI.keep (h:DelI p l0 l i j)(a:l[j.toNat]? =some x)(k:p x=true):DelI p l0 (l.set i.toNat x) (i+1) (j+1):=by
 have b:=h.at_ a
 have n:=h.lt a
 obtain ⟨m,c,d,e⟩:=h
 refine ⟨by rw[ax];omega,by rw[ax];exact c,?_,?_⟩
 ·have g:(l.set i.toNat x)[i.toNat]? =some x:=bj (by omega)
  rw[show (j+1).toNat=j.toNat+1 by omega,show (i+1).toNat=i.toNat+1 by omega,Qr g,Qr b,bg,List.take_set_of_le (aP _),d]
  simp[k]
 ·have:=congrArg (List.drop 1) e
  rw[ed,ed] at this
  rw[show (j+1).toNat=j.toNat+1 by omega,List.drop_set_of_lt (by omega)]
  exact this
end
def Qdj (l:QqS)(name:BA):FC prog 303 [(false,[.dat Qj l]),(false,[dS name])] [] 0 (QJ (lI (Zj (fun x:Qs=>decide (x.1=name)) l))):=by
 refine Ql func303 rfl rfl ntmps303 fun r e o g s m h=>w6 ?_
 refine alL 7 fun _=> ?_
 refine w4 ?_
 refine lpK l.length (fun k=>NoneTo (fun x:Qs=>decide (x.1=name)) l k) (fun k=>⟨[(1,lf (dS name)),(7,lf (.dat Qj l)),(8,lI (l.length:Int)),(9,lI (k:Int))],[]⟩) (NoneTo.zero) ?_ fun k _ a=> ?_
 exact wo []
 refine w4 ?_
 cases b:(decide ((k:Int)<(l.length:Int)))
 have c:=ab b
 refine w7 ?_
 refine fqI e ?_
 first|exact (a.no (by omega)).symm
 have c:=aa b
 refine w6 ?_
 obtain ⟨q,d⟩:=gx l k
 refine w2 ?_
 refine lc (xal 0 QG WO)<|w9 ?_
 cases n:(decide (q.1=name))
 refine w6 ?_
 exact Qc<|lK_ (a.step d ‹_›)<|wo []
 refine w6 ?_
 exact fqI e<|(a.at d ‹_›).symm
def Qev:∀{t:Ty} {w:World} {cs:List Value} {x y:t.Den},Rep t w cs x→Rep t w cs y→x=y
 | .int,_,_,x,y,h,k=>by have f:=h.1;have d:=k.1;rw[f] at d;simpa using d
 | .bool,_,_,x,y,h,k=>by have f:_=_:=h;have d:_=_:=k;rw[f] at d;simpa using d
 | .str,_,_,x,y,h,k=>by have f:=h.1;have d:=k.1;rw[f] at d;simpa using d
 | .u8,_,_,x,y,h,k=>by
  have f:_=_:=h;have d:_=_:=k;rw[f] at d
  simp only[aN,Value.int.injEq,and_true,true_and] at d
  exact UInt8.toNat_inj.1 (by omega)
 | .vl,_,_,x,y,h,k=>by
  have f:_=_:=h;have d:_=_:=k;rw[f] at d
  exact Qpi (by simpa using d)
 | .sl E e,w,cs,xs,ys,⟨A,c,f,d,h3,h4⟩,⟨A',c',k1,k2,k3,k4⟩=>by
  rw[f] at k1
  simp only[aN,Value.slice.injEq,and_true] at k1
  obtain ⟨rfl,K,rfl⟩:=k1
  apply bL
  intro i
  rcases Nat.lt_or_ge i xs.length with m|m
  ·obtain ⟨b,o,B,C⟩:=h4 (by omega)
   obtain ⟨J,N,q,D⟩:=k4 (by omega)
   rw[B] at q
   cases q
   obtain ⟨p,u,H⟩:=C i xs[i] (ak m)
   obtain ⟨g,v,I⟩:=D i ys[i] (ak (by omega))
   have F:p=g:=by
    apply bL
    intro j
    have L:=u.len
    have M:=v.len
    rcases Nat.lt_or_ge j e.wd with G|G
    ·have z:=H j p[j] (ak (by omega))
     have n:=I j g[j] (ak (by omega))
     rw[z] at n
     rw[ak (by omega),ak (by omega)]
     exact n
    ·rw[bt (by omega),bt (by omega)]
   subst F
   rw[ak m,ak (by omega),Qev u v]
  ·rw[bt m,bt (by omega)]
 | .pr a b,w,cs,x,y,⟨l,r,f,d,h3⟩,⟨l',r',k1,k2,k3⟩=>by
  rw[f] at k1
  obtain ⟨rfl,rfl⟩:=List.append_inj k1 (by rw[d.len,k2.len])
  exact Prod.ext (Qev d k2) (Qev h3 k3)
def Quk {E:TypeId}{e:Ty}{w:World}{fp:List Nat}{cs:List Value}{x:List e.Den}(h:Own (.sl E e) w fp cs x):∃v:Hdr,cs=[hdV v]:=by
 rcases h with ⟨_,h,_⟩|⟨g,a,b,fps,_,h,_⟩
 ·exact ⟨none,h⟩
 ·exact ⟨some (g,0,x.length,a),h⟩
open Classical in
noncomputable def rdF (E:TypeId) (e:Ty) (w:World) (v:Hdr):List e.Den:=if h:∃x,Rep (.sl E e) w [hdV v] x then h.choose else []
def Qvs {E:TypeId}{e:Ty}{w:World}{v:Hdr}{x:List e.Den}(h:Rep (.sl E e) w [hdV v] x):rdF E e w v=x:=by
 have a:∃x,Rep (.sl E e) w [hdV v] x:=⟨x,h⟩
 unfold rdF
 rw[dif_pos a]
 exact Qev a.choose_spec h
def Qig {E:TypeId}{e:Ty}{w:World}:∀{xs:List (List e.Den)} {fp:List Nat} {cs:List Value},OwnL (Own (.sl E e) w) fp cs xs→∃vs:List Hdr,cs=vs.map hdV∧vs.map (rdF E e w)=xs
 | [],_,_,h=>⟨[],h.2,rfl⟩
 | x::xs,_,_,⟨f1,f2,c1,c2,h1,h2,h3,h4⟩=>by
  obtain ⟨v,rfl⟩:=Quk h3
  obtain ⟨vs,rfl,a⟩:=Qig h4
  exact ⟨v::vs,by rw[h2];rfl,by rw[bU,a,Qvs h3.rep]⟩
def Qjs {E:TypeId}{e:Ty}{w:World}{f:Hdr→List e.Den}:∀{vs:List Hdr} {fp:List Nat},OwnL (Own (.sl E e) w) fp (vs.map hdV) (vs.map f)→∀v∈vs,∃a,Own (.sl E e) w a [hdV v] (f v)∧∀g∈a,g∈fp
 | [],_,_,v,hv=>by cases hv
 | u::vs,fp,h,v,hv=>by
  obtain ⟨j,o,c1,c2,rfl,d,i,k⟩:=h
  obtain ⟨z,rfl⟩:=Quk i
  simp only[bU,cI,dX,aN] at d
  obtain ⟨l,rfl⟩:=d
  rcases aK.1 hv with rfl|hv
  ·exact ⟨j,by rw[l];exact i,fun g b=>aU _ b⟩
  ·obtain ⟨a,m,n⟩:=Qjs k v hv
   exact ⟨a,m,fun g b=>bd _ (n g b)⟩
def QpH {w:World}:∀(vs:List Hdr),OwnL (Own .vl w) [] (vs.map hdV) vs
 | []=>⟨rfl,rfl⟩
 | v::vs=>⟨[],[],[hdV v],vs.map hdV,rfl,rfl,⟨rfl,rfl⟩,QpH vs⟩
def Qvg {E E':TypeId}{e:Ty}{w:World}{fp:List Nat}{v:Value}{xs:List (List e.Den)}(h:Own (.sl E (.sl E' e)) w fp [v] xs):
 ∃j k vs f,fp=j++k∧Own (.sl E .vl) w j [v] vs∧OwnL (Own (.sl E' e) w) k (vs.map hdV) (vs.map f)∧vs.map f=xs:=by
 rcases h with ⟨rfl,h,rfl⟩|⟨g,b,a,fps,rfl,n,o,r,p,q,d⟩
 ·exact ⟨[],[],[],fun _=>[],rfl,.inl ⟨rfl,h,rfl⟩,⟨rfl,rfl⟩,rfl⟩
 ·obtain ⟨vs,m,i⟩:=Qig d
  have l:vs.length=xs.length:=by rw[← i,aC]
  rw[m] at d
  refine ⟨[g],fps,vs,rdF E' e w,rfl,.inr ⟨g,b,a,[],rfl,by rw[l];exact n,o,by omega,p,q,?_⟩,by rw[i];exact d,i⟩
  have:(a.toList.take (vs.length*Ty.wd .vl))=vs.map hdV:=by rw[l];exact m
  rw[this]
  exact QpH vs
section
variable {A:Amb}{P:Program}{s:St}{Q:Exit→St→Prop}{c:Code}
def Evl.pl {x:Operand}{p:Nat}{e:Ty}{vs:List Hdr}{f:Hdr→e.Den}{v:Hdr}(j:Evl A s x (.dat .vl v))(i:s.tab.ent p=some (.pl false e vs f))(hv:v∈vs):Evl A s x (.dat e (f v)):=fun b a w r=>by
 obtain ⟨_,_,h⟩:=r.cx.en p _ i
 have d:Rd b.N .vl w [a.eval x] v:=j b a w r
 have g:[a.eval x]=[hdV v]:=d.rep
 show Rd b.N e w [a.eval x] (f v)
 rw[g]
 exact h v hv
end
section
variable {α:Type}[DecidableEq α][Inhabited α]
omit [Inhabited α] in
omit [Inhabited α] in
end
def QFe (P:Program)(f:FuncId):Prop:=∀(blk cap:Nat) (zs:List Int) (w:World),Sort.Holds (Value.int .i64) w blk 0 zs.toArray→zs.length≤9223372036854775807→zs.length≤cap→
 Calls P f #[.slice (some ⟨blk,0,none⟩) zs.length cap] w fun e w'=>e= .returned (.slice (some ⟨blk,0,none⟩) (QqL zs).length cap)∧∃q,w'=Sort.putRow (Value.int .i64) (Sort.ahead w q) blk 0 (QqL zs++List.replicate (zs.length - (QqL zs).length) 0).toArray
def QCd (P:Program)(f:FuncId):Prop:=∀w:World,Calls P f #[.slice none 0 0] w fun e w'=>e= .returned (.slice none 0 0)∧w'=w
section
variable {E:TypeId}{e:Ty}{w:World}{f:Hdr→List e.Den}
end
section
variable {A:Amb}{P:Program}{s:St}{Q:Exit→St→Prop}{c:Code}
def QE5 {x:Operand}{p:Nat}{E:TypeId}{e:Ty}{vs:List Hdr}{f:Hdr→List e.Den}{v:Hdr}(o:Evl A s x (.dat .vl v))(h:s.tab.ent p=some (.pl true (.sl E e) vs f))(hv:v∈vs):EvB A s x (false,[.dat (.sl E e) (f v)]):=fun b a w r=>by
 obtain ⟨_,l⟩:=r.cx.en p _ h
 have j:Rd b.N .vl w [a.eval x] v:=o b a w r
 have k:[a.eval x]=[hdV v]:=j.rep
 obtain ⟨i,q,t⟩:=Qjs l v hv
 refine ⟨_,rfl,?_⟩
 have m:Own (.sl E e) w i [a.eval x] (f v):=by rw[k];exact q
 exact m.rd fun g n=>r.cx.lt ⟨_,h⟩ g (t g n)
end
section
variable {A:Amb}{P:Program}{s:St}{f:FuncId}{xs:List Operand}{tys:Array TypeId}{args:List (Bool×List LV)}{d:Nat}{ty:TypeId}{pos:String}{af:Array Edge}{g:Option (Nat×Bool)}{pv:PV}
end
def ltP:List Int→List Int→Bool
 | [],[]=>false
 | [],_::_=>true
 | _::_,[]=>false
 | x::a,y::b=>if x<y then true else if y<x then false else ltP a b
def QCU (x y:Int):Int:=if x<y then -1 else if y<x then 1 else 0
def QFF:List Int→List Int→Int
 | [],[]=>0
 | [],_::_=> -1
 | _::_,[]=>1
 | x::a,y::b=>if QCU x y=0 then QFF a b else QCU x y
section
variable {N:Nat→Prop}{w:World}{e:Ty}
def FzL.len:∀{vs:List Hdr} {xs:List e.Den},FzL N w e vs xs→vs.length=xs.length
 | [],xs,h=>by rw[show xs=[] from h];rfl
 | v::vs,_,⟨x,r,h1,_,h3⟩=>by rw[h1,av,av,FzL.len h3]
def FzL.app:∀{vs:List Hdr} {xs:List e.Den} {a:List Hdr} {ys:List e.Den},FzL N w e vs xs→FzL N w e a ys→FzL N w e (vs++a) (xs++ys)
 | [],_,_,_,h,k=>by rw[show _=[] from h];exact k
 | v::vs,_,_,_,⟨x,r,h1,h2,h3⟩,k=>⟨x,r++_,by rw[h1];rfl,h2,FzL.app h3 k⟩
def FzL.at:∀{vs:List Hdr} {xs:List e.Den} {j:Nat} {y:e.Den},FzL N w e vs xs→xs[j]? =some y→∃z,vs[j]? =some z∧Rd N e w [hdV z] y
 | [],_,_,_,h,hy=>by rw[show _=[] from h] at hy;cases hy
 | v::vs,_,0,y,⟨x,r,h1,h2,h3⟩,hy=>by subst h1;cases hy;exact ⟨v,rfl,h2⟩
 | v::vs,_,j+1,y,⟨x,r,h1,h2,h3⟩,hy=>by subst h1;exact FzL.at (j:=j) h3 hy
def FzL.mem:∀{vs:List Hdr} {xs:List e.Den},FzL N w e vs xs→∀v∈vs,∃x,Rd N e w [hdV v] x
 | [],_,_,_,hv=>by cases hv
 | u::vs,_,⟨x,r,_,h2,h3⟩,v,hv=>by
  rcases aK.1 hv with rfl|hv
  ·exact ⟨x,h2⟩
  ·exact FzL.mem h3 v hv
def FzL.of {f:Hdr→e.Den}:∀{vs:List Hdr},(∀v∈vs,Rd N e w [hdV v] (f v))→FzL N w e vs (vs.map f)
 | [],_=>rfl
 | v::vs,h=>⟨f v,vs.map f,rfl,h v (aA ..),FzL.of fun u a=>h u (az _ a)⟩
def QzT {E:TypeId}{e:Ty}:∀{vs:List Hdr} {xs:List (List e.Den)},FzL N w (.sl E e) vs xs→vs.map (rdF E e w)=xs∧∀v∈vs,Rd N (.sl E e) w [hdV v] (rdF E e w v)
 | [],_,h=>⟨by rw[show _=[] from h];rfl,fun _ h=>by cases h⟩
 | v::vs,_,⟨x,r,h1,h2,h3⟩=>by
  obtain ⟨c,f⟩:=QzT h3
  have b:rdF E e w v=x:=Qvs h2.rep
  refine ⟨by rw[bU,c,b,h1],fun u a=> ?_⟩
  rcases aK.1 a with rfl|a
  ·rw[b];exact h2
  ·exact f u a
def QlL {E:TypeId}{e:Ty}{f:Hdr→List e.Den}{vs:List Hdr}{a:List Nat}(h:OwnL (Own (.sl E e) w) a (vs.map hdV) (vs.map f))(b:∀g∈a,N g):FzL N w (.sl E e) vs (vs.map f):=FzL.of fun v i=>by
 obtain ⟨l,j,k⟩:=Qjs h v i
 exact j.rd fun g c=>b g (k g c)
end
section
variable {A:Amb}{P:Program}{s:St}
def Rg.toFz {gh:Gh}{a:Act}{w:World}{q:Nat}{E E':TypeId}{e:Ty}{xs:List (List e.Den)}(r:Rg A s gh a w)(I:s.tab.ent q=some (.arr E (.sl E' e) xs)):∃gh',gh'.h=gh.h∧Rg A ⟨s.tm,(q,some (.fz E (.sl E' e) xs))::s.tab⟩ gh' a w:=by
 have n:s.tab.al q:=⟨_,I⟩
 have O:Own (.sl E (.sl E' e)) w (gh.f q) [gh.h q] xs:=r.cx.en q _ I
 obtain ⟨v,G,X,f,B,K,L,M⟩:=Qvg O
 have o:=r.cx.nd q n
 rw[B] at o
 obtain ⟨U,Y,V⟩:=bz.1 o
 have S:∀g∈v,g∈gh.f q:=fun g i=>by rw[B];exact aU _ i
 have u:∀g∈G,g∈gh.f q:=fun g i=>by rw[B];exact bd _ i
 have j:∀t,Tab.al ((q,some (.fz E (.sl E' e) xs))::s.tab) t→s.tab.al t:=fun t ⟨x,m⟩=>by
  rw[Qi] at m
  by_cases c:t=q
  ·rw[c];exact n
  ·rw[if_neg c] at m;exact ⟨_,m⟩
 let gh':Gh:=⟨gh.h,fun t=>if t=q then v else gh.f t,fun g=>gh.N g∨g∈G⟩
 have p:gh'.f q=v:=if_pos rfl
 have z:∀t,t≠q→gh'.f t=gh.f t:=fun t c=>if_neg c
 have k:∀t,∀g∈gh'.f t,g∈gh.f t:=fun t g i=>by
  by_cases c:t=q
  ·rw[c,p] at i;rw[c];exact S g i
  ·rwa [z t c] at i
 have H:∀g,gh.N g→gh'.N g∧w.heap[g]? =w.heap[g]? :=fun g h=>⟨.inl h,rfl⟩
 refine ⟨gh',rfl,r.step ⟨fun t x m=> ?_,fun t F l D R g i C=>r.cx.dj t F (j t l) (j F D) R g (k t g i) (k F g C),fun t l=> ?_,fun t l g i b=> ?_,fun g b=> ?_⟩ (fun t l=> .inl ⟨j t l,rfl,fun _=>rfl⟩) H (ZN w) (fun _ _ _=>rfl) (fun g b=> ?_) fun t l g i=> .inr ⟨t,j t l,k t g i⟩⟩
 ·rw[Qi] at m
  by_cases c:t=q
  ·rw[if_pos c] at m
   cases m
   rw[c]
   refine ⟨X,?_,?_⟩
   ·rw[p];exact K
   ·rw[← M];exact QlL L fun g i=> .inr i
  ·rw[if_neg c] at m
   exact (r.cx.en t x m).mono (fun W _ Q=>⟨j W Q,rfl⟩) H rfl (z t c) fun _ _=>rfl
 ·by_cases c:t=q
  ·rw[c,p];exact U
  ·rw[z t c];exact r.cx.nd t (j t l)
 ·rcases b with b|b
  ·exact r.cx.no t (j t l) g (k t g i) b
  ·by_cases c:t=q
   ·rw[c,p] at i;exact V g i g b rfl
   ·exact r.cx.dj t q (j t l) n c g (k t g i) (u g b)
 ·rcases b with b|b
  ·exact r.cx.nl g b
  ·exact r.cx.lt n g (u g b)
 ·rcases b with b|b
  ·exact .inl b
  ·exact .inr (.inr ⟨q,n,u g b,fun J=>r.xn g J (r.ox q n g (u g b) J)⟩)
def Wk.toFz {q:Nat}{E E':TypeId}{e:Ty}{xs:List (List e.Den)}(b:s.tab.ent q=some (.arr E (.sl E' e) xs)):Wk A s ⟨s.tm,(q,some (.fz E (.sl E' e) xs))::s.tab⟩:=fun _ _ ⟨_,r⟩=>by
 obtain ⟨a,_,c⟩:=r.toFz b
 exact ⟨a,c⟩
def QlQ {i q:Nat}{E E':TypeId}{e:Ty}{xs:List (List e.Den)}(hi:lk s.tm i=some (lf (.ref q)))(p:s.tab.ent q=some (.fz E (.sl E' e) xs)):
 Wk A s ⟨(i,lf (.dat (.sl E (.sl E' e)) xs))::s.tm,(q,none)::s.tab⟩:=fun a w r=>by
 obtain ⟨c,r⟩:=r
 obtain ⟨v,Q,l,D,R⟩:=r.tm i _ hi
 simp only[aN,and_true] at D
 subst D
 have V:v=c.h q:=R ⟨_,p⟩
 obtain ⟨zs,S,F⟩:=r.cx.en q _ p
 have B:=F.len
 refine ⟨_,(r.freeze p).know Q (pv:=lf (.dat (.sl E (.sl E' e)) xs)) ⟨_,rfl,?_⟩⟩
 rw[V]
 show Rd (fun g=>c.N g∨g∈c.f q) (.sl E (.sl E' e)) w [c.h q] xs
 obtain ⟨wM,Y,G⟩:=Ji (fun g=>c.N g∨g∈c.f q) w
 refine ⟨wM,Y,?_⟩
 rcases S with ⟨_,n,o⟩|⟨g,m,H,fps,K,n,o,L,M,g6,O⟩
 ·have W:xs=[]:=bF (by rw[← B,o];rfl)
  subst W
  exact ⟨none,0,n,aP _,aL _,fun h=>absurd h (by simp)⟩
 ·refine ⟨_,m,by rw[← B];exact n,by rw[← B];exact L,M,fun _=>⟨g,0,rfl,fun j y X=> ?_⟩⟩
  obtain ⟨z,C,wN,w1,w2⟩:=F.at X
  refine ⟨[hdV z],w2.kp (w1.kp fun J t=>G J (.inl t)),fun b u U=> ?_⟩
  obtain ⟨fv,I,Z,o2,o3⟩:=O.get j z C
  have o4:I=[hdV z]:=Z.2
  subst o4
  have k:=o3 b u U
  rw[bf] at k
  split at k
  ·rw[dl (G g (.inr (by rw[K];simp)))]
   simp only[World.cell?,o]
   simpa using k
  ·cases k
end
section
variable {A:Amb}{P:Program}{s:St}{x y:Operand}{d:Nat}{T ty:TypeId}{pos:String}{af:Array Edge}{g:Option (Nat×Bool)}
@[reducible] def St.mkF (s:St) (d t:Nat) (used:List Nat) (E:TypeId) (e:Ty) (xs:List e.Den):St:=⟨(d,lf (.ref t))::s.tm,(t,some (.fz E e xs))::(WM used++s.tab)⟩
def QAn {E:TypeId}{e:Ty}{xs ys:List e.Den}(h:xs=ys):some (Ent.fz E e xs)=some (Ent.fz E e ys):=congrArg (fun z=>some (Ent.fz E e z)) h
def Qhg (t:Nat){q j:Nat}{E:TypeId}{e:Ty}{xs ys:List e.Den}(m:Evl A s x (.ref q))(f:s.tab.ent q=some (.fz E e xs))(H:Evl A s y (.ref j))(i:s.tab.ent j=some (.fz E e ys))
 (hT:P.underlying T=some (.slice E)) (hE:Xv P E 1=true) (hb:xs.length+ys.length≤1073741824) (hn:Nat.blt d A.n=true) (hfr:Fresh s t) (hk0:A.k0≤t):
 Does A P ⟨some d,.call {callee:= .builtin .append,args:= #[x,y],argTypes:= #[T,T]},ty,pos,af,g⟩ s (s.mkF d t [q] E e (xs++ys)):=fun a w K Q r G=>by
 obtain ⟨b,r⟩:=r
 obtain ⟨U,D,p⟩:=r.cx.en q _ f
 obtain ⟨o,F,u⟩:=r.cx.en j _ i
 obtain ⟨W,B,C,I,v,J,L,M,z⟩:=QgQ (P:=P) T ty hT (QeH (e:= .vl) hE) D (r.cx.nd q ⟨_,f⟩) ((Own.rep F).srcOk rfl) cv (by simp) (by simp) (by rw[p.len,u.len];exact hb)
 have c:∀g,b.N g→b.N g∧B.heap[g]? =w.heap[g]? :=fun g k=>⟨k,z g (r.cx.nl g k) fun h=>r.cx.no q ⟨_,f⟩ g h k⟩
 have O:=r.make t hfr hk0 [q] (by simp only[aK,bO,or_false];rintro _ rfl;exact ⟨_,f⟩) M (fun g l m=>z g l (m q (by simp))) v J (fun g l=>by
  rcases L g l with h|h|h
  ·exact .inr ⟨q,by simp,h⟩
  ·cases h
  ·exact .inl h)
 have R:=O.mod (q:=t) (Qi .. |>.trans (if_pos rfl)) (ZN B) (fun _ _ _=>rfl) (e:= .fz E e (xs++ys)) ⟨U++o,by simpa using v,(p.mono c).app (u.mono c)⟩
 have S:=R.ext (s':=⟨s.tm,(t,some (.fz E e (xs++ys)))::(WM [q]++s.tab)⟩) (fun _=>rfl) fun V=>by
  rw[Qi,Qi]
  split
  ·rfl
  ·rename_i h;rw[Qi,if_neg h]
 refine QcI rfl (by rw[show a.eval x=b.h q from m b a w r ⟨_,f⟩,show a.eval y=b.h j from H b a w r ⟨_,i⟩];exact I) (G _ _ ⟨_,S.put (aD hn) (pv:=lf (.ref t)) ⟨_,rfl,fun _=>by simp⟩⟩)
def Qew {i:Nat}(E:TypeId)(e:Ty)(hi:lk s.tm i=some (lf (.val (.slice none 0 0)))):Wk A s ⟨(i,lf (.dat (.sl E e) []))::s.tm,s.tab⟩:=fun a w r=>by
 obtain ⟨c,r⟩:=r
 obtain ⟨v,f,l,b,h⟩:=r.tm i _ hi
 simp only[aN,and_true] at b
 subst b
 have j:v= .slice none 0 0:=h
 refine ⟨_,r.know f (pv:=lf (.dat (.sl E e) [])) ⟨_,rfl,?_⟩⟩
 rw[j]
 exact (Evl.nil (A:=A) (s:=s) (E:=E) (e:=e)) c a w r
def QiA (t:Nat){E E':TypeId}{e:Ty}{ys:List e.Den}{z:Value}(U:P.underlying T=some (.slice E))(R:tsh P E=some (false,1))(Z:zer P E=some z)(Y:Ev A s y (false,[.dat (.sl E' e) ys]))(V:0<ys.length)(W:Nat.blt d A.n=true)(H:Fresh s t)(I:A.k0≤t):
 Does A P ⟨some d,.buildSlice T 1 #[(0,y)],ty,pos,af,g⟩ s (s.mkF d t [] E (.sl E' e) [ys]):=fun a w K Q r S=>by
 obtain ⟨B,r⟩:=r
 obtain ⟨l,m,X⟩:=Y B a w r
 simp only[aN,and_true] at m
 subst m
 have u:Rd B.N (.sl E' e) w [a.eval y] ys:=X
 obtain ⟨A',c,M,h2,h3,O⟩:=u.rep
 obtain ⟨b,o,rfl,_⟩:=O V
 have C:a.eval y=hdV (some (b,o,ys.length,c)):=by simpa [hdV] using M
 have F:(a.eval y).cells.size=1:=by rw[C];rfl
 obtain ⟨f,k1,k2⟩:=Jr 1 [a.eval y] 0 ((Array.range (1*1)).map ((z.cells)[· % (z.cells).size]!)) (by simpa using F) (by simp)
 have v:(execOp a.eval ⟨some d,.buildSlice T 1 #[(0,y)],ty,pos,af,g⟩).run P w= .ok (.value (.slice (some ⟨w.heap.size,0,none⟩) 1 1)) (w.alloc (.cells f E)):=by
  simp only[execOp,Instr.buildSlice,aw,run_underlying U,aF,YD R]
  rw[if_neg (by decide),if_neg (by decide)]
  simp only[be,aF,aw,Wc Z]
  rw[show (Array.map (fun p:Nat×Operand=>(p.1,a.eval p.2)) #[(0,y)]).toList=([a.eval y].zipIdx 0).map fun p=>(p.2,p.1) by simp,k1]
  simp[newRow,aw]
 unfold Oper.wp
 rw[v,Oper.upon_value]
 have j:∀g,g<w.heap.size→(w.alloc (.cells f E)).heap[g]? =w.heap[g]? :=fun g k=>Below.heap_alloc w _ g k
 have i:f.toList=[hdV (some (b,o,ys.length,c))]:=by
  rw[k2,C];rfl
 have G:f.size=1:=by rw[show f.size=f.toList.length by simp,i];rfl
 have D:∀g,B.N g→B.N g∧(w.alloc (.cells f E)).heap[g]? =w.heap[g]? :=fun g J=>⟨J,j g (r.cx.nl g J)⟩
 have L:Own (.sl E .vl) (w.alloc (.cells f E)) [w.heap.size] [.slice (some ⟨w.heap.size,0,none⟩) 1 1] [some (b,o,ys.length,c)]:= .inr ⟨w.heap.size,1,f,[],rfl,rfl,heap_alloc_new w _,by simp,by unfold maxLen;omega,G,by
  rw[aJ (by rw[i];exact aP _),i]
  exact ⟨[],[],[hdV (some (b,o,ys.length,c))],[],rfl,rfl,⟨rfl,rfl⟩,⟨rfl,rfl⟩⟩⟩
 have r2:=r.make (w':=w.alloc (.cells f E)) t H I [] (by simp) ⟨rfl,rfl,rfl,by simp⟩ (fun g k _=>j g k) (hv:= .slice (some ⟨w.heap.size,0,none⟩) 1 1) (fp:=[w.heap.size]) (E:=E) (e:= .vl) (xs:=[some (b,o,ys.length,c)])
  L (by simp) (fun g k=> .inl (by simp at k;omega))
 have r3:=r2.mod (q:=t) (Qi .. |>.trans (if_pos rfl)) (ZN _) (fun _ _ _=>rfl) (e:= .fz E (.sl E' e) [ys]) ⟨[some (b,o,ys.length,c)],by simpa using L,ys,[],rfl,C▸u.mono D,rfl⟩
 have r4:=r3.ext (s':=⟨s.tm,(t,some (.fz E (.sl E' e) [ys]))::(WM []++s.tab)⟩) (fun _=>rfl) fun q'=>by
  rw[Qi,Qi]
  split
  ·rfl
  ·rename_i h;rw[Qi,if_neg h]
 exact S _ _ ⟨_,r4.put (aD W) (pv:=lf (.ref t)) ⟨_,rfl,fun _=>by simp⟩⟩
end
end Go.Proofs.YtjfpbcmfbnnooaaGreat
