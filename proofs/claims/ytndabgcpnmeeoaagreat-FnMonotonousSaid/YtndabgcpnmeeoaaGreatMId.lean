/- Walks over abstract states: the best monotonous cube of a region, both sides; edges. -/
import Derived.Test.YtndabgcpnmeeoaaGreatMIa
import Derived.Test.YtndabgcpnmeeoaaGreatMGe
import Derived.Test.YtndabgcpnmeeoaaGreatMGi
import Derived.Test.YtndabgcpnmeeoaaGreatMHn
set_option linter.unusedSimpArgs false
set_option linter.unusedVariables false
set_option linter.unusedSectionVars false
namespace Go.Proofs.YtndabgcpnmeeoaaGreat
open Go.RowKit
set_option maxRecDepth 100000
set_option maxHeartbeats 4000000
abbrev BSt:=ByteArray×Bool
noncomputable def bcS (c:DSg) (R Q:List Int) (st:BSt) (cube:ByteArray):BSt:=if (!st.2||decide (YC [cube] < YC [st.1]))=true∧Wi c R Q cube=0 then (cube,true) else st
noncomputable def bcK (c:DSg) (R Q:List Int) (k:Nat):BSt:=((Q1 ((c.1.length:Int)).toNat).take k).foldl (bcS c R Q) (⟨#[]⟩,false)
noncomputable def bcV (c:DSg) (R Q:List Int):BSt:=(Q1 ((c.1.length:Int)).toNat).foldl (bcS c R Q) (⟨#[]⟩,false)
section
variable {c:DSg}{R Q:List Int}{cu b:ByteArray}{f v:Bool}{k:Nat}{l:List ByteArray}
theorem gd1 (h:cu.size≤1000):GdL [cu]:=⟨by simp,fun x a=>by rw[aD] at a; rw[a]; exact h⟩
theorem Qqq (a:(Q1 ((c.1.length:Int)).toNat)[k]? =some cu):bcK c R Q (k+1)=bcS c R Q (bcK c R Q k) cu:=by unfold bcK; rw[Qw a,bq]; rfl
theorem Qsu (i:(Q1 ((c.1.length:Int)).toNat)[k]? =some cu)(e:(b,f)=bcK c R Q k)(a:f=false∨YC [cu] < YC [b])(d:Wi c R Q cu=0):(cu,true)=bcK c R Q (k+1):=by
 have g:(!f||decide (YC [cu] < YC [b]))=true:=by
  rcases a with h | h
  ·rw[h]; rfl
  ·rw[aE h]; simp
 rw[Qqq i,← e,bcS,if_pos ⟨g,d⟩]
theorem QtD (i:(Q1 ((c.1.length:Int)).toNat)[k]? =some cu)(e:(b,f)=bcK c R Q k)(a:f=true)(d:¬YC [cu] < YC [b]):(b,true)=bcK c R Q (k+1):=by
 have h:¬((!f||decide (YC [cu] < YC [b]))=true∧Wi c R Q cu=0):=fun g=>by
  have:=g.1
  rw[a,aB d] at this
  simp at this
 rw[Qqq i,← e,bcS,if_neg h,a]
theorem Qma (h:(Q1 ((c.1.length:Int)).toNat)[k]? =some cu)(e:(b,f)=bcK c R Q k)(d:f=v)(a:¬Wi c R Q cu=0):(b,v)=bcK c R Q (k+1):=by
 rw[Qqq h,← e,bcS,if_neg fun g=>a g.2,d]
theorem Qgq (e:(b,f)=bcK c R Q k)(a:(Q1 ((c.1.length:Int)).toNat).length≤k):(b,f)=bcV c R Q:=by rw[e]; unfold bcK bcV; rw[aR a]
theorem Qmw:(bcV c R Q).2=true→(bcV c R Q).1∈Q1 ((c.1.length:Int)).toNat∧Wi c R Q (bcV c R Q).1=0:=by
 have:∀(l:List ByteArray) (a:BSt),(∀x∈l,x∈Q1 ((c.1.length:Int)).toNat)→(a.2=true→a.1∈Q1 ((c.1.length:Int)).toNat∧Wi c R Q a.1=0)→(l.foldl (bcS c R Q) a).2=true→(l.foldl (bcS c R Q) a).1∈Q1 ((c.1.length:Int)).toNat∧Wi c R Q (l.foldl (bcS c R Q) a).1=0:=by
  intro l
  induction l with
  | nil=>exact fun a _ h=>h
  | cons x l j=>
   intro a d h
   refine j (bcS c R Q a x) (fun y i=>d y (aw _ i)) ?_
   unfold bcS
   split
   ·rename_i g
    exact fun _=>⟨d x (ax ..),g.2⟩
   ·exact h
 exact this _ (⟨#[]⟩,false) (fun x e=>e) fun h=>by cases h
theorem Qtg (a:(Q1 ((c.1.length:Int)).toNat)[k]? =some cu)(d:c.1.length≤8):cu.size=c.1.length∧cu.size≤1000:=by
 have:=Ww (ae a)
 omega
end
theorem Uh (c:ZX)(l:Int×Bool)(d:List Int)(u:SgOk c)(O:0≤l.1∧l.1≤(c.1.length:Int) - 1)(A:∀q∈d,q∈xS c.2.2 l):FC Tryz.prog 80 [(true,[.dat Ql c.1, .dat Qj c.2.1, .dat Qv c.2.2]),(true,[dI l.1,dB l.2]),(false,[.dat Qi d])] [] 0 (QX (PV.tup [(false,[dS ((bcV c d (qV c l.1 d)).1)]),(false,[dB ((bcV c d (qV c l.1 d)).2)])])):=by
 have D:∀a∈c.2.2,InR c.2.1.length a:=fun a M=>ZL (u.arcs a M)
 have T:=u.some_
 have N:=u.few
 have X:=u.sigs.2.2
 refine Qp Tryz.func80 rfl rfl Tryz.ntmps80 fun V L U G W K J=> ?_
 refine acG 1 0 fun _=> ?_
 refine w_ ?_
 refine xbx 0 ?_
 refine xbx 1 ?_
 refine w7 ?_
 refine lc (dK (VP c l d u O A).frozen QdO) ?_
 refine w8 ?_
 refine alL 18 fun _=> ?_
 refine w_ ?_
 refine lc (dK (Qa4 (c.1.length:Int) (by omega)).frozen QkM) ?_
 refine alL 20 fun _=> ?_
 refine w4 ?_
 refine QD (fun E F=>∃(k:Nat) (i:ByteArray) (w:Bool),k≤(Q1 (c.1.length:Int).toNat).length∧E=(Q1 (c.1.length:Int).toNat).length - k∧((i,w)=bcK c d (qV c l.1 d) k)∧(i.size≤1000)∧F=⟨[(2,lf (.dat Qi d)),(3,lP 0 0),(6,lf (dS (⟨#[]⟩:ByteArray))),(7,lB false),(8,lf (.dat Qi (qV c l.1 d))),(9,lf (dS i)),(10,lB w),(20,lf (.dat Qj (Q1 (c.1.length:Int).toNat))),(21,lI ((Q1 (c.1.length:Int).toNat).length:Int)),(22,lI (k:Int))],[bx 0 28 [.dat Ql c.1, .dat Qj c.2.1, .dat Qv c.2.2]]⟩) ⟨0,(⟨#[]⟩:ByteArray),false,aP _,rfl,rfl,(aP _),rfl⟩ ?_ ?_
 exact wo []
 rintro E F ⟨k,i,w,P,S,p,h,rfl⟩
 refine w4 ?_
 cases x:(decide ((k:Int) < ((Q1 (c.1.length:Int).toNat).length:Int)))
 have y:=aa x
 refine w10 ?_
 have H:(i:ByteArray)=((bcV c d (qV c l.1 d)).1):=by
  exact congrArg Prod.fst (Qgq p (by omega))
 have I:(w:Bool)=((bcV c d (qV c l.1 d)).2):=by
  exact congrArg Prod.snd (Qgq p (by omega))
 exact fr_ L (e:=by rw[← H,← I] <;> rfl)
 have y:=ab x
 refine w5 ?_
 obtain ⟨cu,z⟩:=gx (Q1 (c.1.length:Int).toNat) k
 have g:=z
 have j:=Qtg g (by omega)
 refine w8 ?_
 cases C:(w)
 refine w13 ?_
 refine lgy rfl rfl (dK (XN c d (qV c l.1 d) cu u (by omega) (fun q B=>KL D (A q B))) HG) ?_
 refine w3 ?_
 cases m:(decide ((Wi c d (qV c l.1 d) cu)=0))
 have r:=aa m
 refine w6 ?_
 refine Qb<|Zb ⟨k+1,i,false,by omega,rfl,(by exact Qma g p (by first | assumption | rfl) ‹_›),(by exact h),rfl⟩ (by omega) ?_
 exact wo []
 have r:=ab m
 refine w5 ?_
 refine Qb ?_
 refine w4 ?_
 refine Qb<|Zb ⟨k+1,cu,true,by omega,rfl,(by exact Qsu g p (.inl ‹_›) ‹_›),(by exact j.2),rfl⟩ (by omega) ?_
 exact wo []
 refine w_ ?_
 refine lgy rfl rfl (dBs 2 (e:= .str) Ya) ?_
 refine lgy rfl rfl (dB_ (Wj ([cu]) (gd1 (by first | exact j.2 | exact h))) Hc) ?_
 refine w_ ?_
 refine lgy rfl rfl (dBs 3 (e:= .str) Ya) ?_
 refine lgy rfl rfl (dB_ (Wj ([i]) (gd1 (by first | exact j.2 | exact h))) Hc) ?_
 refine w3 ?_
 cases n:(decide ((YC ([cu])) < (YC ([i]))))
 have s:=aa n
 refine w14 ?_
 refine Qb<|Zb ⟨k+1,i,true,by omega,rfl,(by exact QtD g p ‹_› (by omega)),(by exact h),rfl⟩ (by omega) ?_
 exact wo []
 have s:=ab n
 refine w4 ?_
 refine lgy rfl rfl (dK (XN c d (qV c l.1 d) cu u (by omega) (fun q B=>KL D (A q B))) HG) ?_
 refine w3 ?_
 cases o:(decide ((Wi c d (qV c l.1 d) cu)=0))
 have t:=aa o
 refine w6 ?_
 refine Qb<|Zb ⟨k+1,i,true,by omega,rfl,(by exact Qma g p (by first | assumption | rfl) ‹_›),(by exact h),rfl⟩ (by omega) ?_
 exact wo []
 have t:=ab o
 refine w5 ?_
 refine Qb ?_
 refine w4 ?_
 refine Qb<|Zb ⟨k+1,cu,true,by omega,rfl,(by exact Qsu g p (.inr ‹_›) ‹_›),(by exact j.2),rfl⟩ (by omega) ?_
 exact wo []
theorem U5 (c:ZX)(d:List Int)(g:List Int)(w:SgOk c)(B:∀q∈d,0≤q∧q < (c.2.1.length:Int)):FC Tryz.prog 85 [(true,[.dat Ql c.1, .dat Qj c.2.1, .dat Qv c.2.2]),(false,[.dat Qi d]),(false,[.dat Qi g])] [] 0 (QX (PV.tup [(false,[dS ((bcV c d g).1)]),(false,[dB ((bcV c d g).2)])])):=by
 have W:∀a∈c.2.2,InR c.2.1.length a:=fun a L=>ZL (w.arcs a L)
 have P:=w.some_
 have M:=w.few
 have V:=w.sigs.2.2
 refine Qp Tryz.func85 rfl rfl Tryz.ntmps85 fun T K S F U J I=> ?_
 refine w_ ?_
 refine xbx 0 ?_
 refine w11 ?_
 refine alL 13 fun _=> ?_
 refine w_ ?_
 refine lc (dK (Qbs (c.1.length:Int) (by omega)).frozen QjT) ?_
 refine alL 15 fun _=> ?_
 refine w4 ?_
 refine QD (fun D E=>∃(k:Nat) (j:ByteArray) (x:Bool),k≤(Q1 (c.1.length:Int).toNat).length∧D=(Q1 (c.1.length:Int).toNat).length - k∧((j,x)=bcK c d g k)∧(j.size≤1000)∧E=⟨[(1,lf (.dat Qi d)),(2,lf (.dat Qi g)),(3,lP 0 0),(6,lf (dS (⟨#[]⟩:ByteArray))),(7,lB false),(8,lf (dS j)),(9,lB x),(15,lf (.dat Qj (Q1 (c.1.length:Int).toNat))),(16,lI ((Q1 (c.1.length:Int).toNat).length:Int)),(17,lI (k:Int))],[bx 0 28 [.dat Ql c.1, .dat Qj c.2.1, .dat Qv c.2.2]]⟩) ⟨0,(⟨#[]⟩:ByteArray),false,aP _,rfl,rfl,(aP _),rfl⟩ ?_ ?_
 exact wo []
 rintro D E ⟨k,j,x,N,O,r,i,rfl⟩
 refine w4 ?_
 cases y:(decide ((k:Int) < ((Q1 (c.1.length:Int).toNat).length:Int)))
 have z:=aa y
 refine w10 ?_
 have G:(j:ByteArray)=((bcV c d g).1):=by
  exact congrArg Prod.fst (Qgq r (by omega))
 have H:(x:Bool)=((bcV c d g).2):=by
  exact congrArg Prod.snd (Qgq r (by omega))
 exact fr_ K (e:=by rw[← G,← H] <;> rfl)
 have z:=ab y
 refine w5 ?_
 obtain ⟨cu,A⟩:=gx (Q1 (c.1.length:Int).toNat) k
 have h:=A
 have m:=Qtg h (by omega)
 refine w8 ?_
 cases C:(x)
 refine w16 ?_
 refine lc (dK (Vt c d g cu w (by omega) B) Hm) ?_
 refine w2 ?_
 cases n:(decide ((Wi c d g cu)=0))
 have s:=aa n
 refine w6 ?_
 refine Qb<|Zb ⟨k+1,j,false,by omega,rfl,(by exact Qma h r (by first | assumption | rfl) ‹_›),(by exact i),rfl⟩ (by omega) ?_
 exact wo []
 have s:=ab n
 refine w7 ?_
 refine Qb ?_
 refine w4 ?_
 refine Qb<|Zb ⟨k+1,cu,true,by omega,rfl,(by exact Qsu h r (.inl ‹_›) ‹_›),(by exact m.2),rfl⟩ (by omega) ?_
 exact wo []
 refine w_ ?_
 refine lgy rfl rfl (dBs 1 (e:= .str) Ya) ?_
 refine lgy rfl rfl (dB_ (WW ([cu]) (gd1 (by first | exact m.2 | exact i))) Qd3) ?_
 refine w_ ?_
 refine lgy rfl rfl (dBs 2 (e:= .str) Ya) ?_
 refine lgy rfl rfl (dB_ (WW ([j]) (gd1 (by first | exact m.2 | exact i))) Qd3) ?_
 refine w3 ?_
 cases o:(decide ((YC ([j]))≤(YC ([cu]))))
 have t:=aa o
 refine w7 ?_
 refine lc (dK (Vt c d g cu w (by omega) B) Hm) ?_
 refine w2 ?_
 cases p:(decide ((Wi c d g cu)=0))
 have u:=aa p
 refine w6 ?_
 refine Qb<|Zb ⟨k+1,j,true,by omega,rfl,(by exact Qma h r (by first | assumption | rfl) ‹_›),(by exact i),rfl⟩ (by omega) ?_
 exact wo []
 have u:=ab p
 refine w7 ?_
 refine Qb ?_
 refine w4 ?_
 refine Qb<|Zb ⟨k+1,cu,true,by omega,rfl,(by exact Qsu h r (.inr (by omega)) ‹_›),(by exact m.2),rfl⟩ (by omega) ?_
 exact wo []
 have t:=ab o
 refine w6 ?_
 refine Qb<|Zb ⟨k+1,j,true,by omega,rfl,(by exact QtD h r ‹_› (by omega)),(by exact i),rfl⟩ (by omega) ?_
 exact wo []
def egF (s:Int):List (Int×Bool):=[(s,true),(s,false)]
def egL (c:DSg):List (Int×Bool):=(Qy c.1 c.1.length).flatMap egF
theorem Qdp (l:List Int):(l.flatMap egF).length=2*l.length:=by
 induction l with
 | nil=>rfl
 | cons x l a=>rw[List.flatMap_cons,ai,a,au]; show 2+_=_; omega
theorem QsP {l:List Int}{k:Nat}{s:Int}(a:l[k]? =some s):(l.take k).flatMap egF++[(s,true),(s,false)]=(l.take (k+1)).flatMap egF:=by rw[Qw a,db]; simp[egF]
theorem U2 (c:ZX)(q:c.1.length≤100000):FC Tryz.prog 78 [(true,[.dat Ql c.1, .dat Qj c.2.1, .dat Qv c.2.2])] [] 0 (YV 75 Zk (egL c)):=by
 have r:=Wo (ss:=c.1) (k:=c.1.length)
 refine Qp Tryz.func78 rfl rfl Tryz.ntmps78 fun t n s i u m j=> ?_
 refine w_ ?_
 refine xbx 0 ?_
 refine w3 ?_
 refine lc (dBs 1 (e:=Zk) XY) ?_
 refine w5 ?_
 refine lc (dK (Kc c q).frozen QcP) ?_
 refine alL 8 fun _=> ?_
 refine w4 ?_
 refine lp0 ((Qy c.1 c.1.length).length) (fun k=>⟨[(2,lf (.val (.slice none 0 0))),(3,lR 2),(8,lf (.dat Qi (Qy c.1 c.1.length))),(9,lI ((Qy c.1 c.1.length).length:Int)),(10,lI (k:Int))],[ar 2 75 Zk (((Qy c.1 c.1.length).take k).flatMap egF)]⟩) ?_ fun k _=> ?_
 exact wp [(2,1)] ⟨(Qk (rfl)),trivial⟩
 have p:=Qdp ((Qy c.1 c.1.length).take k)
 have o:((Qy c.1 c.1.length).take k).length≤(Qy c.1 c.1.length).length:=by simp only[ap]; omega
 refine w4 ?_
 cases a:(decide ((k:Int) < ((Qy c.1 c.1.length).length:Int)))
 have d:=aa a
 refine w7 ?_
 refine Qd<|fo_ n ?_
 (rw[aR (by omega)]; rfl)
 have d:=ab a
 refine w5 ?_
 obtain ⟨h,g⟩:=gx (Qy c.1 c.1.length) k
 refine w2 ?_
 refine alI 13 fun _=> ?_
 refine w5 ?_
 refine lc (Qq XJ ⟨_,_,rfl,(Qo rfl),⟨_,_,rfl,(Evl.ev Zn),rfl⟩⟩ (av.1 rfl) rfl rfl) ?_
 refine w_ ?_
 refine lc (Qq XJ ⟨_,_,rfl,(Qo rfl),⟨_,_,rfl,(Evl.ev Zn),rfl⟩⟩ (av.1 rfl) rfl rfl) ?_
 refine lc (dBs 3 (e:=Zk) XY (hab:=by exact ⟨_,_,_,_,rfl,⟨[dI h],[dB true],_,_,_,_,rfl,rfl,⟨rfl,rfl⟩,⟨rfl,rfl⟩,rfl⟩,⟨_,_,_,_,rfl,⟨[dI h],[dB false],_,_,_,_,rfl,rfl,⟨rfl,rfl⟩,⟨rfl,rfl⟩,rfl⟩,⟨rfl,rfl⟩,rfl⟩,rfl⟩)) ?_
 refine lc (dA 4 Qbh) ?_
 refine w_ ?_
 refine Qb ?_
 refine w4 ?_
 refine Qb ?_
 refine l0_ ?_
 exact wp [(2,4)] ⟨(Qk ((QsP g))),trivial⟩
end Go.Proofs.YtndabgcpnmeeoaaGreat
namespace Go.Proofs.YtndabgcpnmeeoaaGreat
open Go.RowKit
set_option maxRecDepth 100000
set_option maxHeartbeats 4000000
abbrev DRc:=Int×Bool×List ByteArray
noncomputable def rg1 (c:DSg) (e:Int×Bool):List (List Int):=regV c.2.2 (xS c.2.2 (e.1,e.2))
noncomputable def rcK (c:DSg) (e:Int×Bool) (i:Nat):List ByteArray:=((rg1 c e).take i).map fun r=>(bcV c r (qV c e.1 r)).1
noncomputable def rcF (c:DSg) (e:Int×Bool):DRc:=(e.1,e.2,(rg1 c e).map fun r=>(bcV c r (qV c e.1 r)).1)
noncomputable def rcB (c:DSg) (e:Int×Bool):Bool:=(rg1 c e).all fun r=>(bcV c r (qV c e.1 r)).2
noncomputable def mcL (c:DSg):List DRc:=(egL c).map (rcF c)
def Q4 (c:DSg):Prop:=(SgOk c∧QL c=QB)∧(egL c).all (rcB c)=true
noncomputable instance [∀c,Decidable (SgOk c)] (c:DSg):Decidable (Q4 c):=inferInstanceAs (Decidable (_∧_))
section
variable {c:DSg}{e:Int×Bool}{k i:Nat}{r:List Int}{cs:List ByteArray}{s:Int}
theorem QfZ:e∈egL c↔e.1∈Qy c.1 c.1.length:=by
 unfold egL
 rw[cH]
 constructor
 ·rintro ⟨s,d,h⟩
  simp only[egF,aC,cA,or_false] at h
  rcases h with rfl | rfl <;> exact d
 ·intro h
  refine ⟨e.1,h, ?_⟩
  obtain ⟨a,b⟩:=e
  cases b <;> simp[egF]
theorem QgC (h:s∈Qy c.1 c.1.length):0≤s∧s≤(c.1.length:Int) - 1:=by
 unfold Qy at h
 obtain ⟨i,a,rfl⟩:=ba.1 h
 have:=bD.1 (bl.1 a).1
 omega
theorem Qrh (h:(egL c)[k]? =some e):0≤e.1∧e.1≤(c.1.length:Int) - 1:=QgC (QfZ.1 (ae h))
theorem Qa7:(egL c).length≤2*c.1.length:=by
 have a:=Qdp (Qy c.1 c.1.length)
 have d:=Wo (ss:=c.1) (k:=c.1.length)
 have f:(egL c).length=((Qy c.1 c.1.length).flatMap egF).length:=rfl
 omega
theorem QqN {α β:Type}{l:List α}{f:α→β}:((l.take k).map f).length≤l.length:=by rw[aJ,ap]; omega
theorem QqS (h:(rg1 c e)[i]? =some r):∀q∈r,q∈xS c.2.2 (e.1,e.2):=KE (ae h)
theorem Qtd (h:(rg1 c e)[i]? =some r):rcK c e i++[(bcV c r (qV c e.1 r)).1]=rcK c e (i+1):=by unfold rcK; rw[Qw h,bt]; rfl
theorem Qll:(rcK c e i).length≤(rg1 c e).length:=by unfold rcK; rw[aJ,ap]; omega
theorem QqF (h:∀j,j < i→∀r,(rg1 c e)[j]? =some r→(bcV c r (qV c e.1 r)).2=true)(hi:(rg1 c e).length≤i):rcB c e=true:=av.2 fun r d=>by
 obtain ⟨j,a⟩:=aL.1 d
 exact h j (aX (ah.1 a).1 hi) r a
theorem Qo6 (hi:(rg1 c e).length≤i):(e.1,e.2,rcK c e i)=rcF c e:=by unfold rcF rcK; rw[aR hi]
theorem Qlq (h:(rg1 c e)[i]? =some r)(hb:(bcV c r (qV c e.1 r)).2=false):rcB c e=false:=List.all_eq_false.2 ⟨r,ae h,by rw[hb]; decide⟩
theorem Qp6 (a:(egL c)[k]? =some e)(h:rcB c e=false):¬Q4 c:=fun g=>by
 have:=av.1 g.2 e (ae a)
 rw[this] at h; cases h
theorem Qos (g:SgOk c∧QL c=QB)(h:∀j,j < k→∀e,(egL c)[j]? =some e→rcB c e=true)(f:(egL c).length≤k):Q4 c:=⟨g,av.2 fun e d=>by
 obtain ⟨j,a⟩:=aL.1 d
 exact h j (aX (ah.1 a).1 f) e a⟩
theorem QeV (h:¬(SgOk c∧QL c=QB)):¬Q4 c:=fun g=>h g.1
theorem XV {α:Type}{l:List α}{P:α→Prop}{x:α}(h:∀j,j < k→∀e,l[j]? =some e→P e)(f:l[k]? =some x)(d:P x):∀j,j < k+1→∀e,l[j]? =some e→P e:=fun j n e a=>by
 by_cases g:j=k
 ·subst g; rw[f] at a; cases a; exact d
 ·exact h j (by omega) e a
theorem Qd4 {α β:Type}{l:List α}{f:α→β}{x:α}{y:β}(a:l[k]? =some x)(d:y=f x):(l.take k).map f++[y]=(l.take (k+1)).map f:=by rw[Qw a,bt,d]; rfl
end
theorem VY (c:ZX)[∀c,Decidable (SgOk c)]:FC Tryz.prog 10 [(true,[.dat Ql c.1, .dat Qj c.2.1, .dat Qv c.2.2])] [] 0 (Is (PV.tup [(false,[.ref 0]),(false,[dB (decide (Q4 c))])]) [ar 0 139 Ym (if Q4 c then mcL c else [])]):=by
 refine Qp Tryz.func10 rfl rfl Tryz.ntmps10 fun O_ E a1 O X_ T S=> ?_
 refine w_ ?_
 refine xbx 0 ?_
 refine w6 ?_
 refine lc (dK (X3 c) Jp) ?_
 refine w2 ?_
 cases w:(decide (SgOk c∧QL c=QB))
 have x:=aa w
 refine w5 ?_
 refine AC.wk (Wk.nilS 1 2 139 Ym rfl (Fresh.of rfl) (nlr rfl))<|Qd ?_
 have Q:(false:Bool)=(decide (Q4 c)):=by
  exact (aB (QeV ‹_›)).symm
 exact fi_ [(0,1)] E ⟨(Qk (by (rw[if_neg (QeV ‹_›)]; done))),trivial⟩ (h0:=by rw[← Q] <;> rfl)
 have x:=ab w
 refine w2 ?_
 refine Zy ?_
 have U:=(by assumption:SgOk c∧QL c=QB)
 have u:=U.1
 have hr:∀a∈c.2.2,InR c.2.1.length a:=fun a V=>ZL (u.arcs a V)
 have Z:=u.some_
 have X:=u.few
 have h8:=u.sigs.2.2
 have I:=Qa7 (c:=c)
 refine w_ ?_
 refine lc (dBs 2 (e:=Ym) XF) ?_
 refine w5 ?_
 refine lc (dK (U2 c (by omega)).frozen Qfu) ?_
 refine alL 17 fun _=> ?_
 refine w4 ?_
 refine lpK ((egL c).length) (fun k=>∀j,j < k→∀e,(egL c)[j]? =some e→rcB c e=true) (fun k=>⟨[(1,lP 0 0),(4,lR 3),(17,lf (.dat Y9 (egL c))),(18,lI ((egL c).length:Int)),(19,lI (k:Int))],[bx 0 28 [.dat Ql c.1, .dat Qj c.2.1, .dat Qv c.2.2],ar 3 139 Ym (((egL c).take k).map (rcF c))]⟩) ((fun j F=>absurd F (aW j))) ?_ fun k _ q=> ?_
 exact wp [(3,2)] ⟨rfl,(Qk (rfl)),trivial⟩
 have Y:=QqN (k:=k) (l:=egL c) (f:=rcF c)
 refine w4 ?_
 cases y:(decide ((k:Int) < ((egL c).length:Int)))
 have z:=aa y
 refine w9 ?_
 have R:(true:Bool)=(decide (Q4 c)):=by
  exact (aE (Qos ‹_› q (by omega))).symm
 exact fi_ [(0,3)] E ⟨(Qk (by (rw[if_pos (Qos ‹_› q (by omega)),aR (by omega)]; rfl))),trivial⟩ (h0:=by rw[← R] <;> rfl)
 have z:=ab y
 refine w5 ?_
 obtain ⟨d,G⟩:=gx (egL c) k
 have n:=G
 have A:=Qrh n
 have a0:=Qcg (l:=(d.1,d.2)) hr
 have L:(rg1 c d).length=(regV c.2.2 (xS c.2.2 (d.1,d.2))).length:=rfl
 refine w2 ?_
 refine lc (xal 4 Zk XY) ?_
 refine w5 ?_
 refine alI 24 fun _=> ?_
 refine w2 ?_
 refine lc (Qq Qmj ⟨_,_,rfl,(Qo rfl),⟨_,_,rfl,(Qo rfl),rfl⟩⟩ (av.1 rfl) rfl rfl)<|lc (xal 5 Ym XF) ?_
 refine w9 ?_
 refine lc (dK (Z1 c d.1 d.2 u) Jm) ?_
 refine alL 33 fun _=> ?_
 refine w4 ?_
 refine AC.wk (QZ 6 (p:=5) (off:=2) 9 .str rfl rfl (Fresh.of rfl) (nlr rfl)) ?_
 refine QD (fun M N=>∃(i:Nat) (cb_:List ByteArray),i≤(regV c.2.2 (xS c.2.2 (d.1,d.2))).length∧M=(regV c.2.2 (xS c.2.2 (d.1,d.2))).length - i∧(cb_=rcK c d i)∧(∀j,j < i→∀r,(rg1 c d)[j]? =some r→(bcV c r (qV c d.1 r)).2=true)∧N=⟨[(1,lP 0 0),(4,lR 3),(6,lP 4 0),(7,lP 5 0),(17,lf (.dat Y9 (egL c))),(18,lI ((egL c).length:Int)),(19,lI (k:Int)),(20,lB true),(21,lf (.elt Zk d 0)),(22,ag [dI d.1,dB d.2]),(23,lP 4 0),(24,lI d.1),(25,lP 4 1),(26,lB d.2),(27,ag [dI d.1,dB d.2, .val (.slice none 0 0)]),(28,ag [.dat Ql c.1, .dat Qj c.2.1, .dat Qv c.2.2]),(29,lP 4 0),(30,lI d.1),(31,lP 4 1),(32,lB d.2),(33,lf (.dat Z7 (regV c.2.2 (xS c.2.2 (d.1,d.2))))),(34,lI ((regV c.2.2 (xS c.2.2 (d.1,d.2))).length:Int)),(35,lI (i:Int))],[bx 0 28 [.dat Ql c.1, .dat Qj c.2.1, .dat Qv c.2.2],ar 3 139 Ym (((egL c).take k).map (rcF c)),bx 4 75 [dI d.1,dB d.2],bx 5 139 [dI d.1,dB d.2, .ref 7],ar 7 9 .str cb_]⟩) ⟨0,([]:(Qj:Ty).Den),aP _,rfl,rfl,(fun j F=>absurd F (aW j)),rfl⟩ ?_ ?_
 exact wp [(7,6)] ⟨rfl,rfl,rfl,rfl,(Qk (by first | rfl | simp)),trivial⟩
 rintro M N ⟨i,cb_,J,K,D,v,rfl⟩
 have W:cb_.length≤(rg1 c d).length:=by rw[D]; exact Qll
 refine w4 ?_
 cases o:(decide ((i:Int) < ((regV c.2.2 (xS c.2.2 (d.1,d.2))).length:Int)))
 have t:=aa o
 refine w6 ?_
 refine lc (dBs 8 (e:=Ym) XF (hab:=by exact ⟨_,_,_,_,rfl,⟨[dI d.1],[dB d.2, .ref 7],_,_,_,_,rfl,rfl,⟨rfl,rfl⟩,⟨[dB d.2],[.ref 7],_,_,_,_,rfl,rfl,⟨rfl,rfl⟩,(.inl ⟨_,rfl,rfl,rfl⟩),rfl⟩,rfl⟩,⟨rfl,rfl⟩,rfl⟩)) ?_
 refine lc (dA 9 QlJ) ?_
 refine w_ ?_
 refine Qb ?_
 refine w4 ?_
 refine Qb ?_
 refine lK_ ((XV q n (QqF v (by omega)))) ?_
 exact wp [(3,9)] ⟨rfl,(Qk ((Qd4 n (by rw[D]; exact Qo6 (by omega))))),trivial⟩
 have t:=ab o
 refine w5 ?_
 obtain ⟨h,B⟩:=gx (regV c.2.2 (xS c.2.2 (d.1,d.2))) i
 have g:(rg1 c d)[i]? =some h:=B
 refine w8 ?_
 refine lc (dK (Uh c d h u A (QqS g)) Qe7) ?_
 refine w11 ?_
 cases H:((bcV c h (qV c d.1 h)).2)
 refine w5 ?_
 refine AC.wk (Wk.nilS 10 2 139 Ym rfl (Fresh.of rfl) (nlr rfl))<|Qd ?_
 have C:(false:Bool)=(decide (Q4 c)):=by
  exact (aB (Qp6 n (Qlq g ‹_›))).symm
 exact fi_ [(0,10)] E ⟨(Qk (by (rw[if_neg (Qp6 n (Qlq g ‹_›))]; done))),trivial⟩ (h0:=by rw[← C] <;> rfl)
 refine w6 ?_
 refine lc (dBs 11 (e:= .str) Ya) ?_
 refine lc (dA 12 VT) ?_
 refine w2 ?_
 refine Qb ?_
 refine w4 ?_
 refine Qb<|Zb ⟨i+1,(cb_++([(bcV c h (qV c d.1 h)).1])),by omega,rfl,(by rw[D]; exact Qtd g),(XV (P:=fun r=>(bcV c r (qV c d.1 r)).2=true) v g ‹_›),rfl⟩ (by omega) ?_
 exact wp [(7,12)] ⟨rfl,rfl,rfl,rfl,(Qk (by first | rfl | simp)),trivial⟩
section
variable {c:DSg}{k m:Nat}{sg:Int}{b:Bool}{l:List Int}
theorem Qr4 {β:Type}{f:Int×Bool→β}(d:l[k]? =some sg)(a:[true,false].length≤m):((l.take k).flatMap egF).map f++([true,false].take m).map (fun b=>f (sg,b))=((l.take (k+1)).flatMap egF).map f:=by
 rw[aR a,Qw d,db,bt]
 simp[egF]
theorem Qnu {α β:Type}{A:List β}{l:List α}{f:α→β}{x:α}{y:β}(a:l[k]? =some x)(d:y=f x):A++(l.take k).map f++[y]=A++(l.take (k+1)).map f:=by rw[aU,Qd4 a d]
theorem QvN (h:∀j,j < m→∀b,[true,false][j]? =some b→rcB c (sg,b)=true)(a:[true,false].length≤m):rcB c (sg,true)=true∧rcB c (sg,false)=true:=⟨h 0 (aX (by decide) a) true rfl,h 1 (aX (by decide) a) false rfl⟩
theorem QmM (o:SgOk c∧QL c=QB)(h:∀j,j < k→∀s,(Qy c.1 c.1.length)[j]? =some s→rcB c (s,true)=true∧rcB c (s,false)=true)(n:(Qy c.1 c.1.length).length≤k):Q4 c:=⟨o,av.2 fun e g=>by
 obtain ⟨j,f⟩:=aL.1 (QfZ.1 g)
 have d:=h j (aX (ah.1 f).1 n) e.1 f
 obtain ⟨a,b⟩:=e
 cases b
 ·exact d.2
 ·exact d.1⟩
theorem QmI (a:(Qy c.1 c.1.length)[k]? =some sg)(h:rcB c (sg,b)=false):¬Q4 c:=fun g=>by
 have:=av.1 g.2 (sg,b) (QfZ.2 (ae a))
 rw[this] at h; cases h
theorem QtN (a:(Qy c.1 c.1.length).length≤k):(((Qy c.1 c.1.length).take k).flatMap egF).map (rcF c)=mcL c:=by rw[aR a]; rfl
theorem Qur {f:Int×Bool→DRc}:(((l.take k).flatMap egF).map f).length≤2*l.length:=by
 have:=Qdp (l.take k)
 rw[aJ,this,ap]; omega
theorem QtR {f:Bool→DRc}:(([true,false].take m).map f).length≤2:=by
 rw[aJ,ap]; exact Nat.min_le_right ..
end
theorem XB (c:ZX)[∀c,Decidable (SgOk c)]:FC Tryz.prog 11 [(true,[.dat Ql c.1, .dat Qj c.2.1, .dat Qv c.2.2])] [] 0 (Is (PV.tup [(false,[.ref 0]),(false,[dB (decide (Q4 c))])]) [ar 0 139 Ym (if Q4 c then mcL c else [])]):=by
 refine Qp Tryz.func11 rfl rfl Tryz.ntmps11 fun O_ K b0 a0 X_ a2 a1=> ?_
 refine w_ ?_
 refine xbx 0 ?_
 refine w6 ?_
 refine lc (dK (X0 c) JA) ?_
 refine w2 ?_
 cases D:(decide (SgOk c))
 have E:=aa D
 refine w10 ?_
 refine AC.wk (Wk.nilS 1 2 139 Ym rfl (Fresh.of rfl) (nlr rfl))<|Qd ?_
 have e2:(false:Bool)=(decide (Q4 c)):=by
  exact (aB (QeV (fun g=>absurd g.1 ‹_›))).symm
 exact fi_ [(0,1)] K ⟨(Qk (by (rw[if_neg (QeV (fun g=>absurd g.1 ‹_›))]; done))),trivial⟩ (h0:=by rw[← e2] <;> rfl)
 have E:=ab D
 refine w_ ?_
 refine lgy rfl rfl (dK (XD c (by assumption:SgOk c).w) Uc) ?_
 refine w3 ?_
 refine cn_ (fun _ _=> ?_) fun _ _=> ?_
 refine w_ ?_
 refine Zy ?_
 have O:SgOk c∧QL c=QB:=⟨by assumption,by assumption⟩
 have z:=O.1
 have W:∀a∈c.2.2,InR c.2.1.length a:=fun a ha=>ZL (z.arcs a ha)
 have a7:=z.some_
 have a4:=z.few
 have h8:=z.sigs.2.2
 have a8:=Wo (ss:=c.1) (k:=c.1.length)
 refine w6 ?_
 refine lc (dK (XE c (by omega)).frozen Jb) ?_
 refine alL 23 fun _=> ?_
 refine w4 ?_
 refine AC.wk (Wk.nilS 2 4 139 Ym rfl (Fresh.of rfl) (nlr rfl)) ?_
 refine lpK ((Qy c.1 c.1.length).length) (fun k=>∀j,j < k→∀s,(Qy c.1 c.1.length)[j]? =some s→rcB c (s,true)=true∧rcB c (s,false)=true) (fun k=>⟨[(1,lP 0 0),(4,lR 3),(23,lf (.dat Qi (Qy c.1 c.1.length))),(24,lI ((Qy c.1 c.1.length).length:Int)),(25,lI (k:Int))],[bx 0 28 [.dat Ql c.1, .dat Qj c.2.1, .dat Qv c.2.2],ar 3 139 Ym ((((Qy c.1 c.1.length).take k).flatMap egF).map (rcF c))]⟩) ((fun j H=>absurd H (aW j))) ?_ fun k _ v=> ?_
 exact wp [(3,2)] ⟨rfl,(Qk (rfl)),trivial⟩
 have a6:=Qur (k:=k) (l:=Qy c.1 c.1.length) (f:=rcF c)
 refine w4 ?_
 cases F:(decide ((k:Int) < ((Qy c.1 c.1.length).length:Int)))
 have G:=aa F
 refine w9 ?_
 have e7:(true:Bool)=(decide (Q4 c)):=by
  exact (aE (QmM O v (by omega))).symm
 exact fi_ [(0,3)] K ⟨(Qk (by (rw[if_pos (QmM O v (by omega))]; exact QtN (by omega)))),trivial⟩ (h0:=by rw[← e7] <;> rfl)
 have G:=ab F
 refine w5 ?_
 obtain ⟨sg,R⟩:=gx (Qy c.1 c.1.length) k
 have o:=R
 have Q:=QgC (ae o)
 refine w2 ?_
 refine alI 28 fun _=> ?_
 refine w3 ?_
 refine lc (dBs 4 (e:= .bool) Qvx) ?_
 refine w4 ?_
 refine lpK (([true,false]).length) (fun m=>∀j,j < m→∀b,[true,false][j]? =some b→rcB c (sg,b)=true) (fun m=>⟨[(1,lP 0 0),(4,lR 5),(6,lI sg),(23,lf (.dat Qi (Qy c.1 c.1.length))),(24,lI ((Qy c.1 c.1.length).length:Int)),(25,lI (k:Int)),(26,lB true),(27,lf (.elt .int sg 0)),(28,lI sg),(29,lR 4),(30,lI (([true,false]).length:Int)),(31,lI (m:Int))],[bx 0 28 [.dat Ql c.1, .dat Qj c.2.1, .dat Qv c.2.2],ar 4 4 .bool ([true,false]),ar 5 139 Ym ((((Qy c.1 c.1.length).take k).flatMap egF).map (rcF c)++([true,false].take m).map (fun b=>rcF c (sg,b)))]⟩) ((fun j H=>absurd H (aW j))) ?_ fun m _ C=> ?_
 exact wp [(5,3)] ⟨rfl,rfl,(Qk ((bE _).symm)),trivial⟩
 have V:=QtR (m:=m) (f:=fun b=>rcF c (sg,b))
 refine w4 ?_
 cases t:(decide ((m:Int) < (([true,false]).length:Int)))
 have x:=aa t
 refine w6 ?_
 refine Qb ?_
 refine lK_ ((XV (P:=fun s=>rcB c (s,true)=true∧rcB c (s,false)=true) v o (QvN C (by omega)))) ?_
 exact wp [(3,5)] ⟨rfl,(Qk ((Qr4 o (by omega)))),trivial⟩
 have x:=ab t
 refine w6 ?_
 obtain ⟨h,I⟩:=gx ([true,false]) m
 have A:=I
 have a5:m < 2:=(ah.1 A).1
 have a9:=Qcg (l:=(sg,h)) W
 have X:(rg1 c (sg,h)).length=(regV c.2.2 (xS c.2.2 (sg,h))).length:=rfl
 refine w6 ?_
 refine lc (Qq Qmj ⟨_,_,rfl,(Qo rfl),⟨_,_,rfl,(Qo rfl),rfl⟩⟩ (av.1 rfl) rfl rfl)<|lc (xal 6 Ym XF) ?_
 refine w7 ?_
 refine lc (dK (Z2 c sg h z Q).frozen Vb) ?_
 refine alL 41 fun _=> ?_
 refine w4 ?_
 refine AC.wk (QZ 7 (p:=6) (off:=2) 9 .str rfl rfl (Fresh.of rfl) (nlr rfl)) ?_
 refine QD (fun Y Z=>∃(i:Nat) (cb_:List ByteArray),i≤(regV c.2.2 (xS c.2.2 (sg,h))).length∧Y=(regV c.2.2 (xS c.2.2 (sg,h))).length - i∧(cb_=rcK c (sg,h) i)∧(∀j,j < i→∀r,(rg1 c (sg,h))[j]? =some r→(bcV c r (qV c sg r)).2=true)∧Z=⟨[(1,lP 0 0),(4,lR 5),(6,lI sg),(8,lB h),(9,lP 6 0),(23,lf (.dat Qi (Qy c.1 c.1.length))),(24,lI ((Qy c.1 c.1.length).length:Int)),(25,lI (k:Int)),(26,lB true),(27,lf (.elt .int sg 0)),(28,lI sg),(29,lR 4),(30,lI (([true,false]).length:Int)),(31,lI (m:Int)),(32,lB true),(33,lf (.ept 4 1 m 0)),(34,lB h),(35,lI sg),(36,lB h),(37,ag [dI sg,dB h, .val (.slice none 0 0)]),(38,ag [.dat Ql c.1, .dat Qj c.2.1, .dat Qv c.2.2]),(39,lI sg),(40,lB h),(41,lf (.dat Z7 (regV c.2.2 (xS c.2.2 (sg,h))))),(42,lI ((regV c.2.2 (xS c.2.2 (sg,h))).length:Int)),(43,lI (i:Int))],[bx 0 28 [.dat Ql c.1, .dat Qj c.2.1, .dat Qv c.2.2],ar 4 4 .bool ([true,false]),ar 5 139 Ym ((((Qy c.1 c.1.length).take k).flatMap egF).map (rcF c)++([true,false].take m).map (fun b=>rcF c (sg,b))),bx 6 139 [dI sg,dB h, .ref 8],ar 8 9 .str cb_]⟩) ⟨0,([]:(Qj:Ty).Den),aP _,rfl,rfl,(fun j H=>absurd H (aW j)),rfl⟩ ?_ ?_
 exact wp [(8,7)] ⟨rfl,rfl,rfl,rfl,(Qk (by first | rfl | simp)),trivial⟩
 rintro Y Z ⟨i,cb_,T,U,N,B,rfl⟩
 have a3:cb_.length≤(rg1 c (sg,h)).length:=by rw[N]; exact Qll
 refine w4 ?_
 cases u:(decide ((i:Int) < ((regV c.2.2 (xS c.2.2 (sg,h))).length:Int)))
 have y:=aa u
 refine w6 ?_
 refine lc (dBs 9 (e:=Ym) XF (hab:=by exact ⟨_,_,_,_,rfl,⟨[dI sg],[dB h, .ref 8],_,_,_,_,rfl,rfl,⟨rfl,rfl⟩,⟨[dB h],[.ref 8],_,_,_,_,rfl,rfl,⟨rfl,rfl⟩,(.inl ⟨_,rfl,rfl,rfl⟩),rfl⟩,rfl⟩,⟨rfl,rfl⟩,rfl⟩)) ?_
 refine lc (dA 10 QlJ) ?_
 refine w_ ?_
 refine Qb ?_
 refine w4 ?_
 refine Qb ?_
 refine lK_ ((XV (P:=fun b=>rcB c (sg,b)=true) C A (QqF B (by omega)))) ?_
 exact wp [(5,10)] ⟨rfl,rfl,(Qk ((Qnu A (by rw[N]; exact Qo6 (e:=(sg,h)) (by omega))))),trivial⟩
 have y:=ab u
 refine w5 ?_
 obtain ⟨d,J⟩:=gx (regV c.2.2 (xS c.2.2 (sg,h))) i
 have n:(rg1 c (sg,h))[i]? =some d:=J
 refine w4 ?_
 apply dW (i5 48 _ _ _ _ _ (io 53 (lf (.dat Qi (qV c sg d))) :: io 54 (PV.tup [(false,[dS ((bcV c d (qV c sg d)).1)]),(false,[dB ((bcV c d (qV c sg d)).2)])]) :: io 47 _ :: i2 55 _ _ (i2 12 _ _ []))) [0,1,3,7,15,3,0,0,0,256,512,0]
 refine z5 ?_
 refine zz (fun _ h_=>ac (dK (Uq c sg d z).frozen Qfq) rfl) ?_
 refine zz (fun _ h_=>ac (dK (U5 c d (qV c sg d) z (fun q hq=>KL W (QqS n q hq))) QfK) rfl) ?_
 exact y5
 refine w5 ?_
 cases S:((bcV c d (qV c sg d)).2)
 refine w5 ?_
 refine AC.wk (Wk.nilS 11 2 139 Ym rfl (Fresh.of rfl) (nlr rfl))<|Qd ?_
 have L:(false:Bool)=(decide (Q4 c)):=by
  exact (aB (QmI o (Qlq n ‹_›))).symm
 exact fi_ [(0,11)] K ⟨(Qk (by (rw[if_neg (QmI o (Qlq n ‹_›))]; done))),trivial⟩ (h0:=by rw[← L] <;> rfl)
 refine w6 ?_
 refine lc (dBs 12 (e:= .str) Ya) ?_
 refine lc (dA 13 VT) ?_
 refine w2 ?_
 refine Qb ?_
 refine w4 ?_
 refine Qb<|Zb ⟨i+1,(cb_++([(bcV c d (qV c sg d)).1])),by omega,rfl,(by rw[N]; exact Qtd n),(XV (P:=fun r=>(bcV c r (qV c sg r)).2=true) B n ‹_›),rfl⟩ (by omega) ?_
 exact wp [(8,13)] ⟨rfl,rfl,rfl,rfl,(Qk (by first | rfl | simp)),trivial⟩
 refine w4 ?_
 refine AC.wk (Wk.nilS 14 2 139 Ym rfl (Fresh.of rfl) (nlr rfl))<|Qd ?_
 have M:(false:Bool)=(decide (Q4 c)):=by
  exact (aB (QeV (fun g=>absurd g.2 ‹_›))).symm
 exact fi_ [(0,14)] K ⟨(Qk (by (rw[if_neg (QeV (fun g=>absurd g.2 ‹_›))]; done))),trivial⟩ (h0:=by rw[← M] <;> rfl)
end Go.Proofs.YtndabgcpnmeeoaaGreat
namespace Go.Proofs.YtndabgcpnmeeoaaGreat
open Go.RowKit
set_option maxRecDepth 100000
set_option maxHeartbeats 4000000
noncomputable def regA (c:DSg) (sig:Int) (up:Bool) (i:Int):List Int:=((regV c.2.2 (xS c.2.2 (sig,up)))[i.toNat]?).getD []
def Qy4 (c:DSg)(sig:Int):Prop:=(0≤sig∧sig≤(c.1.length:Int) - 1)∧QR c sig=false∧SgOk c∧QL c=QB
def QeB (c:DSg)(sig:Int)(up:Bool)(i:Int):Prop:=((0≤sig∧sig≤(c.1.length:Int) - 1)∧QR c sig=false∧SgOk c∧QL c=QB)∧(0≤i∧i≤((regV c.2.2 (xS c.2.2 (sig,up))).length:Int) - 1)
noncomputable instance [∀c,Decidable (SgOk c)] (c:DSg) (sig:Int) (up:Bool) (i:Int):Decidable (QeB c sig up i):=inferInstanceAs (Decidable (_∧_))
def CkP (c:DSg)(sig:Int)(up:Bool)(i:Int)(cube:ByteArray):Prop:=QeB c sig up i∧Q2 cube (c.1.length:Int)
noncomputable instance [∀c,Decidable (SgOk c)] (c:DSg) (sig:Int) (up:Bool) (i:Int) (cube:ByteArray):Decidable (CkP c sig up i cube):=inferInstanceAs (Decidable (_∧_))
noncomputable def ckV [∀c,Decidable (SgOk c)] (c:DSg) (sig:Int) (up:Bool) (i:Int) (cube:ByteArray):Int:=if CkP c sig up i cube then Wi c (regA c sig up i) (qV c sig (regA c sig up i)) cube else 0
noncomputable def fdS (c:DSg) (sig:Int) (up:Bool) (i:Int):BSt:=bcV c (regA c sig up i) (qV c sig (regA c sig up i))
noncomputable def fdV [∀c,Decidable (SgOk c)] (c:DSg) (sig:Int) (up:Bool) (i:Int):BSt:=if QeB c sig up i then fdS c sig up i else (⟨#[]⟩,false)
section
variable [∀c,Decidable (SgOk c)]{c:DSg}{sig i:Int}{up:Bool}{cube:ByteArray}{reg Q:List Int}
theorem Qk0 (h:(regV c.2.2 (xS c.2.2 (sig,up)))[i.toNat]? =some reg):regA c sig up i=reg:=by unfold regA; rw[h]; rfl
theorem QvR (b:CkP c sig up i cube)(h:(regV c.2.2 (xS c.2.2 (sig,up)))[i.toNat]? =some reg)(a:Q=qV c sig (((regV c.2.2 (xS c.2.2 (sig,up)))[i.toNat]?).getD [])):Wi c reg Q cube=ckV c sig up i cube:=by
 rw[ckV,if_pos b,Qk0 h,a,h]; rfl
theorem QpV (h:¬CkP c sig up i cube):(0:Int)=ckV c sig up i cube:=(if_neg h).symm
theorem QhD (h:¬CkP c sig up i cube):false=decide (CkP c sig up i cube):=(aB h).symm
theorem QsC (b:QeB c sig up i)(h:(regV c.2.2 (xS c.2.2 (sig,up)))[i.toNat]? =some reg)(a:Q=qV c sig reg):bcV c reg Q=fdV c sig up i:=by
 rw[fdV,if_pos b,fdS,Qk0 h,a]
theorem Qn8 (h:¬QeB c sig up i):((⟨#[]⟩:ByteArray),false)=fdV c sig up i:=(if_neg h).symm
theorem QuJ (h:Q2 cube (cube.size:Int))(a:(cube.size:Int)=(c.1.length:Int)):Q2 cube (c.1.length:Int):=a▸h
end
theorem Z9 (c:ZX)(sig:Int)(up:Bool)(i:Int)(cube:ByteArray)[∀c,Decidable (SgOk c)]:FC Tryz.prog 18 [(true,[.dat Ql c.1, .dat Qj c.2.1, .dat Qv c.2.2]),(false,[dI sig]),(false,[dB up]),(false,[dI i]),(false,[dS cube])] [] 0 (QX (PV.tup [(false,[dI (ckV c sig up i cube)]),(false,[dB (decide (CkP c sig up i cube))])])):=by
 refine Qp Tryz.func18 rfl rfl Tryz.ntmps18 fun J p I u K A z=> ?_
 refine acI 1 fun _=> ?_
 refine acI 3 fun _=> ?_
 refine w_ ?_
 refine xbx 0 ?_
 refine w8 ?_
 refine lc (dK (Uo c sig up i) QkY) ?_
 refine w11 ?_
 cases f:(decide (((0≤sig∧sig≤(c.1.length:Int) - 1)∧QR c sig=false∧SgOk c∧QL c=QB)∧(0≤i∧i≤((regV c.2.2 (xS c.2.2 (sig,up))).length:Int) - 1)))
 have h:=aa f
 refine w14 ?_
 have v:(0:Int)=(ckV c sig up i cube):=by
  exact QpV (fun g=>absurd g.1 ‹_›)
 have w:(false:Bool)=(decide (CkP c sig up i cube)):=by
  exact QhD (fun g=>absurd g.1 ‹_›)
 exact fr_ p (e:=by rw[← v,← w] <;> rfl)
 have h:=ab f
 refine w3 ?_
 refine alL 27 fun _=> ?_
 refine w_ ?_
 refine lgy rfl rfl (dK (KY cube (c.1.length:Int)) Qc7) ?_
 refine w3 ?_
 cases j:(decide (Q2 cube (c.1.length:Int)))
 have k:=aa j
 refine w6 ?_
 have x:(0:Int)=(ckV c sig up i cube):=by
  exact QpV (fun g=>absurd g.2 ‹_›)
 have y:(false:Bool)=(decide (CkP c sig up i cube)):=by
  exact QhD (fun g=>absurd g.2 ‹_›)
 exact fr_ p (e:=by rw[← x,← y] <;> rfl)
 have k:=ab j
 refine w2 ?_
 have m:QeB c sig up i:=‹_›
 have B:=m.1
 have d:=B.2.2.1
 have M:=m.2
 have s:=(by assumption:Q2 cube (c.1.length:Int))
 have t:CkP c sig up i cube:=⟨m,s⟩
 have N:(cube.size:Int)=(c.1.length:Int):=s.2.1
 have H:∀a∈c.2.2,InR c.2.1.length a:=fun a D=>ZL (d.arcs a D)
 have F:=d.some_
 have E:=d.few
 have L:=d.sigs.2.2
 obtain ⟨reg,l⟩:=gx (regV c.2.2 (xS c.2.2 (sig,up))) ((i).toNat)
 have b:=l
 have r:∀q∈reg,q∈xS c.2.2 (sig,up):=KE (ae b)
 apply dW (i4 32 _ _ _ _ (io 36 (lf (.dat Z7 (regV c.2.2 (xS c.2.2 (sig,up))))) :: i5 37 _ _ _ _ _ (io 42 (lI (Wi c reg (if ((0≤sig∧sig≤(c.1.length:Int) - 1)∧QR c sig=false∧SgOk c∧QL c=QB)∧(0≤i∧i≤((regV c.2.2 (xS c.2.2 (sig,up))).length:Int) - 1) then qV c sig (((regV c.2.2 (xS c.2.2 (sig,up)))[i.toNat]?).getD []) else []) cube)) :: i2 10 _ _ []))) [0,1,3,7,1,31,1,1,255,511,0,0,0]
 refine z4 ?_
 refine zz (fun _ C=>ac (dK (Z1 c sig up d) Jm) rfl) ?_
 refine z5 ?_
 refine zz (fun _ C=>ac (dK (XN c reg (if ((0≤sig∧sig≤(c.1.length:Int) - 1)∧QR c sig=false∧SgOk c∧QL c=QB)∧(0≤i∧i≤((regV c.2.2 (xS c.2.2 (sig,up))).length:Int) - 1) then qV c sig (((regV c.2.2 (xS c.2.2 (sig,up)))[i.toNat]?).getD []) else []) cube d (by omega) (fun q G=>KL H (r q G))) HG) rfl) ?_
 exact y2
 refine w_ ?_
 have n:(Wi c reg (if ((0≤sig∧sig≤(c.1.length:Int) - 1)∧QR c sig=false∧SgOk c∧QL c=QB)∧(0≤i∧i≤((regV c.2.2 (xS c.2.2 (sig,up))).length:Int) - 1) then qV c sig (((regV c.2.2 (xS c.2.2 (sig,up)))[i.toNat]?).getD []) else []) cube:Int)=(ckV c sig up i cube):=by
  exact QvR t b (if_pos m)
 have o:(true:Bool)=(decide (CkP c sig up i cube)):=by
  exact (aE t).symm
 exact fr_ p (e:=by rw[n,← o] <;> rfl)
theorem Yb (c:ZX)(sig:Int)(up:Bool)(i:Int)(cube:ByteArray)[∀c,Decidable (SgOk c)]:FC Tryz.prog 19 [(true,[.dat Ql c.1, .dat Qj c.2.1, .dat Qv c.2.2]),(false,[dI sig]),(false,[dB up]),(false,[dI i]),(false,[dS cube])] [] 0 (QX (PV.tup [(false,[dI (ckV c sig up i cube)]),(false,[dB (decide (CkP c sig up i cube))])])):=by
 refine Qp Tryz.func19 rfl rfl Tryz.ntmps19 fun L m K x M D C=> ?_
 refine acI 1 fun _=> ?_
 refine acI 3 fun _=> ?_
 refine w_ ?_
 refine xbx 0 ?_
 refine w8 ?_
 refine lc (dK (XT c sig up i) Qet) ?_
 refine w11 ?_
 cases f:(decide (((0≤sig∧sig≤(c.1.length:Int) - 1)∧QR c sig=false∧SgOk c∧QL c=QB)∧(0≤i∧i≤((regV c.2.2 (xS c.2.2 (sig,up))).length:Int) - 1)))
 have h:=aa f
 refine w16 ?_
 refine w3 ?_
 have y:(0:Int)=(ckV c sig up i cube):=by
  exact QpV (fun g=>absurd g.1 ‹_›)
 have z:(false:Bool)=(decide (CkP c sig up i cube)):=by
  exact QhD (fun g=>absurd g.1 ‹_›)
 exact fr_ m (e:=by rw[← y,← z] <;> rfl)
 have h:=ab f
 refine w_ ?_
 refine lgy rfl rfl (dK (U1 cube) Qek) ?_
 refine w3 ?_
 cases j:(decide (Q2 cube (cube.size:Int)))
 have k:=aa j
 refine w14 ?_
 have A:(0:Int)=(ckV c sig up i cube):=by
  exact QpV (fun g=>(by assumption:¬Q2 cube (cube.size:Int)) (g.2.2.1▸g.2))
 have B:(false:Bool)=(decide (CkP c sig up i cube)):=by
  exact QhD (fun g=>(by assumption:¬Q2 cube (cube.size:Int)) (g.2.2.1▸g.2))
 exact fr_ m (e:=by rw[← A,← B] <;> rfl)
 have k:=ab j
 refine w_ ?_
 refine alS 30 fun _=> ?_
 refine lgy rfl rfl (Zd (Qa rfl) rfl Zz) ?_
 refine w2 ?_
 refine alL 33 fun _=> ?_
 refine w4 ?_
 refine cn_ (fun _ _=> ?_) fun _ _=> ?_
 refine w_ ?_
 have n:QeB c sig up i:=‹_›
 have w:=n.1
 have d:=w.2.2.1
 have O:=n.2
 have u:=QuJ (c:=c) (by assumption:Q2 cube (cube.size:Int)) ‹_›
 have v:CkP c sig up i cube:=⟨n,u⟩
 have P:(cube.size:Int)=(c.1.length:Int):=u.2.1
 have J:∀a∈c.2.2,InR c.2.1.length a:=fun a F=>ZL (d.arcs a F)
 have H:=d.some_
 have G:=d.few
 have N:=d.sigs.2.2
 obtain ⟨reg,l⟩:=gx (regV c.2.2 (xS c.2.2 (sig,up))) ((i).toNat)
 have b:=l
 have t:∀q∈reg,q∈xS c.2.2 (sig,up):=KE (ae b)
 apply dW (i4 37 _ _ _ _ (io 41 (lf (.dat Z7 (regV c.2.2 (xS c.2.2 (sig,up))))) :: i5 42 _ _ _ _ _ (io 47 (lI (Wi c reg (if ((0≤sig∧sig≤(c.1.length:Int) - 1)∧QR c sig=false∧SgOk c∧QL c=QB)∧(0≤i∧i≤((regV c.2.2 (xS c.2.2 (sig,up))).length:Int) - 1) then qV c sig (((regV c.2.2 (xS c.2.2 (sig,up)))[i.toNat]?).getD []) else []) cube)) :: i2 10 _ _ []))) [0,1,3,7,1,31,1,1,255,511,0,0,0]
 refine z4 ?_
 refine zz (fun _ E=>ac (dK (Z2 c sig up d w.1).frozen Vb) rfl) ?_
 refine z5 ?_
 refine zz (fun _ E=>ac (dK (Vt c reg (if ((0≤sig∧sig≤(c.1.length:Int) - 1)∧QR c sig=false∧SgOk c∧QL c=QB)∧(0≤i∧i≤((regV c.2.2 (xS c.2.2 (sig,up))).length:Int) - 1) then qV c sig (((regV c.2.2 (xS c.2.2 (sig,up)))[i.toNat]?).getD []) else []) cube d (by omega) (fun q I=>KL J (t q I))) Hm) rfl) ?_
 exact y2
 refine w_ ?_
 have o:(Wi c reg (if ((0≤sig∧sig≤(c.1.length:Int) - 1)∧QR c sig=false∧SgOk c∧QL c=QB)∧(0≤i∧i≤((regV c.2.2 (xS c.2.2 (sig,up))).length:Int) - 1) then qV c sig (((regV c.2.2 (xS c.2.2 (sig,up)))[i.toNat]?).getD []) else []) cube:Int)=(ckV c sig up i cube):=by
  exact QvR v b (if_pos n)
 have p:(true:Bool)=(decide (CkP c sig up i cube)):=by
  exact (aE v).symm
 exact fr_ m (e:=by rw[o,← p] <;> rfl)
 refine w5 ?_
 have r:(0:Int)=(ckV c sig up i cube):=by
  exact QpV (fun g=>absurd g.2.2.1 ‹_›)
 have s:(false:Bool)=(decide (CkP c sig up i cube)):=by
  exact QhD (fun g=>absurd g.2.2.1 ‹_›)
 exact fr_ m (e:=by rw[← r,← s] <;> rfl)
theorem Yp (c:ZX)(sig:Int)(up:Bool)(i:Int)[∀c,Decidable (SgOk c)]:FC Tryz.prog 20 [(true,[.dat Ql c.1, .dat Qj c.2.1, .dat Qv c.2.2]),(false,[dI sig]),(false,[dB up]),(false,[dI i])] [] 0 (QX (PV.tup [(false,[dS ((fdV c sig up i).1)]),(false,[dB ((fdV c sig up i).2)])])):=by
 refine Qp Tryz.func20 rfl rfl Tryz.ntmps20 fun J t I x K D C=> ?_
 refine acI 1 fun _=> ?_
 refine acI 3 fun _=> ?_
 refine w_ ?_
 refine xbx 0 ?_
 refine w7 ?_
 refine lc (dK (Xw c sig up) Qd0) ?_
 refine w11 ?_
 cases f:(decide ((0≤sig∧sig≤(c.1.length:Int) - 1)∧QR c sig=false∧SgOk c∧QL c=QB))
 have h:=aa f
 refine w14 ?_
 have y:((⟨#[]⟩:ByteArray):ByteArray)=((fdV c sig up i).1):=by
  exact congrArg Prod.fst (Qn8 (fun g=>absurd g.1 ‹_›))
 have z:(false:Bool)=((fdV c sig up i).2):=by
  exact congrArg Prod.snd (Qn8 (fun g=>absurd g.1 ‹_›))
 exact fr_ t (e:=by rw[y,← z] <;> rfl)
 have h:=ab f
 refine w2 ?_
 refine alL 23 fun _=> ?_
 refine w2 ?_
 refine lgy rfl rfl (dK (Q9 i 0 (((if ((0≤sig∧sig≤(c.1.length:Int) - 1)∧QR c sig=false∧SgOk c∧QL c=QB) then regV c.2.2 (xS c.2.2 (sig,up)) else []).length:Int) - 1)) ZP) ?_
 refine w3 ?_
 cases j:(decide (0≤i∧i≤(((if ((0≤sig∧sig≤(c.1.length:Int) - 1)∧QR c sig=false∧SgOk c∧QL c=QB) then regV c.2.2 (xS c.2.2 (sig,up)) else []).length:Int) - 1)))
 have k:=aa j
 refine w6 ?_
 have A:((⟨#[]⟩:ByteArray):ByteArray)=((fdV c sig up i).1):=by
  exact congrArg Prod.fst (Qn8 (fun g=>by have d:=(by assumption:¬(0≤i∧i≤((if ((0≤sig∧sig≤(c.1.length:Int) - 1)∧QR c sig=false∧SgOk c∧QL c=QB) then regV c.2.2 (xS c.2.2 (sig,up)) else []).length:Int) - 1)); rw[if_pos g.1] at d; exact d g.2))
 have B:(false:Bool)=((fdV c sig up i).2):=by
  exact congrArg Prod.snd (Qn8 (fun g=>by have d:=(by assumption:¬(0≤i∧i≤((if ((0≤sig∧sig≤(c.1.length:Int) - 1)∧QR c sig=false∧SgOk c∧QL c=QB) then regV c.2.2 (xS c.2.2 (sig,up)) else []).length:Int) - 1)); rw[if_pos g.1] at d; exact d g.2))
 exact fr_ t (e:=by rw[A,← B] <;> rfl)
 have k:=ab j
 refine w2 ?_
 have p:=(by assumption:((0≤sig∧sig≤(c.1.length:Int) - 1)∧QR c sig=false∧SgOk c∧QL c=QB))
 have n:=p.2.2.1
 have l:=(by assumption:0≤i∧i≤((if ((0≤sig∧sig≤(c.1.length:Int) - 1)∧QR c sig=false∧SgOk c∧QL c=QB) then regV c.2.2 (xS c.2.2 (sig,up)) else []).length:Int) - 1)
 have m:(if ((0≤sig∧sig≤(c.1.length:Int) - 1)∧QR c sig=false∧SgOk c∧QL c=QB) then regV c.2.2 (xS c.2.2 (sig,up)) else [])=regV c.2.2 (xS c.2.2 (sig,up)):=if_pos p
 have G:0≤i∧i≤((regV c.2.2 (xS c.2.2 (sig,up))).length:Int) - 1:=by rw[m] at l; exact l
 have v:QeB c sig up i:=⟨p,G⟩
 have M:∀a∈c.2.2,InR c.2.1.length a:=fun a E=>ZL (n.arcs a E)
 have H:=n.some_
 have F:=n.few
 have L:=n.sigs.2.2
 obtain ⟨reg,o⟩:=gx (if ((0≤sig∧sig≤(c.1.length:Int) - 1)∧QR c sig=false∧SgOk c∧QL c=QB) then regV c.2.2 (xS c.2.2 (sig,up)) else []) ((i).toNat)
 have b:(regV c.2.2 (xS c.2.2 (sig,up)))[(i).toNat]? =some reg:=by rw[← m]; exact o
 have u:∀q∈reg,q∈xS c.2.2 (sig,up):=KE (ae b)
 apply dW (i3 29 _ _ _ (io 32 (ag [dI sig,dB up]) :: i4 33 _ _ _ _ (io 37 (PV.tup [(false,[dS ((bcV c reg (qV c (sig,up).1 reg)).1)]),(false,[dB ((bcV c reg (qV c (sig,up).1 reg)).2)])]) :: i2 38 _ _ (i2 8 _ _ [])))) [0,1,3,1,15,31,15,15,0,0,512,0,0]
 refine z3 ?_
 refine zz (fun _ d=>ac (Qq XJ ⟨_,_,rfl,(d.w rfl),⟨_,_,rfl,(d.w rfl),rfl⟩⟩ (av.1 rfl) rfl rfl) rfl) ?_
 refine z4 ?_
 refine zz (fun _ d=>ac (dK (Uh c (sig,up) reg n p.1 u) Qe7) rfl) ?_
 exact y4
 refine w_ ?_
 have r:((bcV c reg (qV c (sig,up).1 reg)).1:ByteArray)=((fdV c sig up i).1):=by
  exact congrArg Prod.fst (QsC v b rfl)
 have s:((bcV c reg (qV c (sig,up).1 reg)).2:Bool)=((fdV c sig up i).2):=by
  exact congrArg Prod.snd (QsC v b rfl)
 exact fr_ t (e:=by rw[r,s] <;> rfl)
theorem ZV (c:ZX)(sig:Int)(up:Bool)(i:Int)[∀c,Decidable (SgOk c)]:FC Tryz.prog 21 [(true,[.dat Ql c.1, .dat Qj c.2.1, .dat Qv c.2.2]),(false,[dI sig]),(false,[dB up]),(false,[dI i])] [] 0 (QX (PV.tup [(false,[dS ((fdV c sig up i).1)]),(false,[dB ((fdV c sig up i).2)])])):=by
 refine Qp Tryz.func21 rfl rfl Tryz.ntmps21 fun C l B n D u t=> ?_
 refine acI 1 fun _=> ?_
 refine acI 3 fun _=> ?_
 refine w_ ?_
 refine xbx 0 ?_
 refine w8 ?_
 refine lc (dK (XT c sig up i) Qet) ?_
 refine w11 ?_
 cases g:(decide (((0≤sig∧sig≤(c.1.length:Int) - 1)∧QR c sig=false∧SgOk c∧QL c=QB)∧(0≤i∧i≤((regV c.2.2 (xS c.2.2 (sig,up))).length:Int) - 1)))
 have h:=aa g
 refine w6 ?_
 have o:((⟨#[]⟩:ByteArray):ByteArray)=((fdV c sig up i).1):=by
  exact congrArg Prod.fst (Qn8 ‹_›)
 have p:(false:Bool)=((fdV c sig up i).2):=by
  exact congrArg Prod.snd (Qn8 ‹_›)
 exact fr_ l (e:=by rw[o,← p] <;> rfl)
 have h:=ab g
 refine w2 ?_
 have d:QeB c sig up i:=‹_›
 have m:=d.1
 have f:=m.2.2.1
 have F:=d.2
 have A:∀a∈c.2.2,InR c.2.1.length a:=fun a w=>ZL (f.arcs a w)
 have y:=f.some_
 have x:=f.few
 have E:=f.sigs.2.2
 obtain ⟨reg,k⟩:=gx (regV c.2.2 (xS c.2.2 (sig,up))) ((i).toNat)
 have b:=k
 have j:∀q∈reg,q∈xS c.2.2 (sig,up):=KE (ae b)
 apply dW (i4 22 _ _ _ _ (io 26 (lf (.dat Z7 (regV c.2.2 (xS c.2.2 (sig,up))))) :: i4 27 _ _ _ _ (io 31 (PV.tup [(false,[dS ((bcV c reg (if ((0≤sig∧sig≤(c.1.length:Int) - 1)∧QR c sig=false∧SgOk c∧QL c=QB)∧(0≤i∧i≤((regV c.2.2 (xS c.2.2 (sig,up))).length:Int) - 1) then qV c sig (((regV c.2.2 (xS c.2.2 (sig,up)))[i.toNat]?).getD []) else [])).1)]),(false,[dB ((bcV c reg (if ((0≤sig∧sig≤(c.1.length:Int) - 1)∧QR c sig=false∧SgOk c∧QL c=QB)∧(0≤i∧i≤((regV c.2.2 (xS c.2.2 (sig,up))).length:Int) - 1) then qV c sig (((regV c.2.2 (xS c.2.2 (sig,up)))[i.toNat]?).getD []) else [])).2)])]) :: i2 32 _ _ (i2 8 _ _ [])))) [0,1,3,7,1,31,1,1,255,0,0,1024,0,0]
 refine z4 ?_
 refine zz (fun _ v=>ac (dK (Z2 c sig up f m.1).frozen Vb) rfl) ?_
 refine z4 ?_
 refine zz (fun _ v=>ac (dK (U5 c reg (if ((0≤sig∧sig≤(c.1.length:Int) - 1)∧QR c sig=false∧SgOk c∧QL c=QB)∧(0≤i∧i≤((regV c.2.2 (xS c.2.2 (sig,up))).length:Int) - 1) then qV c sig (((regV c.2.2 (xS c.2.2 (sig,up)))[i.toNat]?).getD []) else []) f (fun q z=>KL A (j q z))) QfK) rfl) ?_
 exact y4
 refine w_ ?_
 have r:((bcV c reg (if ((0≤sig∧sig≤(c.1.length:Int) - 1)∧QR c sig=false∧SgOk c∧QL c=QB)∧(0≤i∧i≤((regV c.2.2 (xS c.2.2 (sig,up))).length:Int) - 1) then qV c sig (((regV c.2.2 (xS c.2.2 (sig,up)))[i.toNat]?).getD []) else [])).1:ByteArray)=((fdV c sig up i).1):=by
  exact congrArg Prod.fst (QsC d b ((if_pos d).trans (by rw[b]; rfl)))
 have s:((bcV c reg (if ((0≤sig∧sig≤(c.1.length:Int) - 1)∧QR c sig=false∧SgOk c∧QL c=QB)∧(0≤i∧i≤((regV c.2.2 (xS c.2.2 (sig,up))).length:Int) - 1) then qV c sig (((regV c.2.2 (xS c.2.2 (sig,up)))[i.toNat]?).getD []) else [])).2:Bool)=((fdV c sig up i).2):=by
  exact congrArg Prod.snd (QsC d b ((if_pos d).trans (by rw[b]; rfl)))
 exact fr_ l (e:=by rw[r,s] <;> rfl)
end Go.Proofs.YtndabgcpnmeeoaaGreat
