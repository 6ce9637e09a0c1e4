import Derived.Test.YtjfpbcmfbnnooaaGreatPJn
set_option linter.all false
namespace Go.Proofs.YtjfpbcmfbnnooaaGreat
open Go.RowKit Tryz
set_option maxRecDepth 100000
set_option maxHeartbeats 4000000
def QdS (c:DSg)(cube:BA)(q:Int):Bool:= !(ZK cube (ZP c q))
def VP (c:DSg)(R Q:List Int)(cube:BA)(k:Nat):Bool:=ZK cube (cdA c k)&&(!(decide ((k:Int)∈R))&& !(decide ((k:Int)∈Q)))
def QaU (c:DSg)(R:List Int)(cube:BA)(a:DAr):Bool:= !(ZK cube (ZP c a.1))&&(ZK cube (ZP c a.2.2.2)&& !(decide (a.2.2.2∈R)))
def J4 (c:DSg)(R Q:List Int)(cube:BA):Int:=
 if R.any (QdS c cube)=true then 1 else if (List.range c.2.1.length).any (VP c R Q cube)=true then 2 else if c.2.2.any (QaU c R cube)=true then 3 else 0
section
variable {c:DSg}{R Q:List Int}{cube w w2:BA}{q:Int}{i k m:Nat}{a:DAr}
def JN {b:Bool}(h:R.any (fun y=>decide (q=y))=b):decide (q∈R)=b:=by
 rw[← h,cC,bI,bG]
 exact ⟨fun g=>⟨q,g,ay rfl⟩,fun ⟨y,d,e⟩=>by rw[aa e];exact d⟩
def QDK (d:R[i]? =some q)(b:c.2.1[q.toNat]? =some w)(h:ZK cube w=false):(1:Int)=J4 c R Q cube:=
 (if_pos (bG.2 ⟨q,ah d,by unfold QdS;rw[ZH b,h];rfl⟩)).symm
def QA9 (b:c.2.1[q.toNat]? =some w)(h:ZK cube w=true):QdS c cube q=false:=by unfold QdS;rw[ZH b,h];rfl
def QDL (g:NoneTo (QdS c cube) R i)(hi:R.length≤i)(b:c.2.1[k]? =some w)(d:ZK cube w=true)(e:decide ((k:Int)∈R)=false)(f:decide ((k:Int)∈Q)=false):(2:Int)=J4 c R Q cube:=by
 have h:=(ae.1 b).1
 unfold J4
 rw[g.any_no hi,if_neg (by decide),if_pos (bG.2 ⟨k,bC.2 h,by unfold VP;rw[Ql3 b,d,e,f];rfl⟩)]
def Qjl (b:c.2.1[k]? =some w)(g:ZK cube w=false):VP c R Q cube k=false:=by unfold VP;rw[Ql3 b,g];rfl
def Qjm (g:decide ((k:Int)∈R)=true):VP c R Q cube k=false:=by unfold VP;rw[g];simp
def Qjn (g:decide ((k:Int)∈Q)=true):VP c R Q cube k=false:=by unfold VP;rw[g];simp
def Qk5 (b:∀j,j<k→VP c R Q cube j=false)(e:c.2.1.length≤k):(List.range c.2.1.length).any (VP c R Q cube)=false:=bV.2 fun j d=>by
 rw[b j (ba (bC.1 d) e)];decide
def QDM (g:NoneTo (QdS c cube) R i)(hi:R.length≤i)(h:∀j,j<k→VP c R Q cube j=false)(l:c.2.1.length≤k)(o:c.2.2[m]? =some a)(n:c.2.1[a.1.toNat]? =some w)(b:c.2.1[a.2.2.2.toNat]? =some w2)(d:ZK cube w=false)(e:ZK cube w2=true)(f:decide (a.2.2.2∈R)=false):(3:Int)=J4 c R Q cube:=by
 unfold J4
 rw[g.any_no hi,if_neg (by decide),Qk5 h l,if_neg (by decide),if_pos (bG.2 ⟨a,ah o,by unfold QaU;rw[ZH n,ZH b,d,e,f];rfl⟩)]
def Qjo (b:c.2.1[a.1.toNat]? =some w)(g:ZK cube w=true):QaU c R cube a=false:=by unfold QaU;rw[ZH b,g];rfl
def Qjp (b:c.2.1[a.2.2.2.toNat]? =some w)(g:ZK cube w=false):QaU c R cube a=false:=by unfold QaU;rw[ZH b,g];simp
def Qjq (g:decide (a.2.2.2∈R)=true):QaU c R cube a=false:=by unfold QaU;rw[g];simp
def QDJ (b:NoneTo (QdS c cube) R i)(hi:R.length≤i)(d:∀j,j<k→VP c R Q cube j=false)(f:c.2.1.length≤k)(e:NoneTo (QaU c R cube) c.2.2 m)(g:c.2.2.length≤m):(0:Int)=J4 c R Q cube:=by
 unfold J4
 rw[b.any_no hi,if_neg (by decide),Qk5 d f,if_neg (by decide),e.any_no g,if_neg (by decide)]
def QnW (b:∀j,j<k→VP c R Q cube j=false)(h:VP c R Q cube k=false):∀j,j<k+1→VP c R Q cube j=false:=fun j d=>by
 by_cases e:j=k
 ·subst e;exact h
 ·exact b j (by omega)
end
def Um (c:Yw)(b:List Int)(d:List Int)(cube:BA)(s:SgOk c)(hz:(cube.size:Int)≤(c.1.length:Int))(hR:∀q∈b,0≤q∧q<(c.2.1.length:Int)):FC prog 334 [(true,[.dat Qj c.1,.dat Qd c.2.1,.dat Qq c.2.2]),(false,[.dat Qv b]),(false,[.dat Qv d]),(false,[dS cube])] [] 0 (QJ (lI (J4 c b d cube))):=by
 have hr:∀a∈c.2.2,InR c.2.1.length a:=fun a ha=>We (s.arcs a ha)
 have a3:=s.some_
 have a2:=s.few
 refine Ql func334 rfl rfl ntmps334 fun O_ F a6 X X_ Z Y=>w_ ?_
 refine xbx 0 ?_
 refine w5 ?_
 refine alL 15 fun _=> ?_
 refine w4 ?_
 refine lpK b.length (fun i=>NoneTo (QdS c cube) b i) (fun i=>⟨[(1,lf (.dat Qv b)),(2,lf (.dat Qv d)),(3,lf (dS cube)),(4,lP 0 0),(15,lf (.dat Qv b)),(16,lI (b.length:Int)),(17,lI (i:Int))],[bx 0 28 [.dat Qj c.1,.dat Qd c.2.1,.dat Qq c.2.2]]⟩) (NoneTo.zero) ?_ fun i _ D=> ?_
 exact wo []
 refine w4 ?_
 cases v:(decide ((i:Int)<(b.length:Int)))
 have x:=ab v
 refine w11 ?_
 refine lpK c.2.1.length (fun k=>∀j,j<k→VP c b d cube j=false) (fun k=>⟨[(1,lf (.dat Qv b)),(2,lf (.dat Qv d)),(3,lf (dS cube)),(4,lP 0 0),(31,lf (.dat Qd c.2.1)),(32,lI (c.2.1.length:Int)),(33,lI (k:Int))],[bx 0 28 [.dat Qj c.1,.dat Qd c.2.1,.dat Qq c.2.2]]⟩) ((fun j hj=>absurd hj (aS j))) ?_ fun k _ t=> ?_
 exact wo []
 refine w4 ?_
 cases y:(decide ((k:Int)<(c.2.1.length:Int)))
 have z:=ab y
 refine w11 ?_
 refine lpK c.2.2.length (fun m=>NoneTo (QaU c b cube) c.2.2 m) (fun m=>⟨[(1,lf (.dat Qv b)),(3,lf (dS cube)),(4,lP 0 0),(55,lf (.dat Qq c.2.2)),(56,lI (c.2.2.length:Int)),(57,lI (m:Int))],[bx 0 28 [.dat Qj c.1,.dat Qd c.2.1,.dat Qq c.2.2]]⟩) (NoneTo.zero) ?_ fun m _ E=> ?_
 exact wo []
 refine w4 ?_
 cases A:(decide ((m:Int)<(c.2.2.length:Int)))
 have B:=ab A
 refine w7 ?_
 exact fqI F<|QDJ D (by omega) t (by omega) E (by omega)
 have B:=aa A
 refine w5 ?_
 obtain ⟨ar,h⟩:=gx c.2.2 m
 have e:=h
 have u:=hr _ (ah h)
 have a0:=u.1
 have a1:=u.2
 refine w2 ?_
 refine lc (xal 1 Yi Yp)<|w8 ?_
 refine alI 65 fun _=> ?_
 obtain ⟨U,l⟩:=gx c.2.1 ((ar.1).toNat)
 have f:=l
 have P:=(s.codes _ (ah l)).2
 refine w2 ?_
 refine lc (dK (YA cube U (by omega)) Wo)<|w2 ?_
 cases H:(ZK cube U)
 refine w5 ?_
 obtain ⟨V,n⟩:=gx c.2.1 ((ar.2.2.2).toNat)
 have g:=n
 have S:=(s.codes _ (ah n)).2
 refine w2 ?_
 refine lgy rfl rfl (dK (YA cube V (by omega)) Wo)<|w2 ?_
 cases I:(ZK cube V)
 refine w13 ?_
 exact Qc<|lK_ ((E.step e (by first|exact Qjo f ‹_› | exact Qjp g ‹_› | exact Qjq (by first|assumption|exact JN ‹_›))))<|wo []
 refine w3 ?_
 refine lgy rfl rfl (dK (X9 b ar.2.2.2) Uc)<|w3 ?_
 cases J:(decide (ar.2.2.2∈b))
 refine w5 ?_
 exact fqI F<|QDM D (by omega) t (by omega) e f g ‹_› ‹_› (by first|assumption|exact JN ‹_›)
 refine w6 ?_
 exact Qc<|lK_ ((E.step e (by first|exact Qjo f ‹_› | exact Qjp g ‹_› | exact Qjq (by first|assumption|exact JN ‹_›))))<|wo []
 refine w16 ?_
 refine w7 ?_
 exact Qc<|lK_ ((E.step e (by first|exact Qjo f ‹_› | exact Qjp g ‹_› | exact Qjq (by first|assumption|exact JN ‹_›))))<|wo []
 have z:=aa y
 refine w6 ?_
 obtain ⟨w,o⟩:=gx c.2.1 k
 have G:=o
 have a5:=(s.codes _ (ah o)).2
 refine w8 ?_
 refine lc (dK (YA cube w (by omega)) Wo)<|w_ ?_
 cases K:(ZK cube w)
 refine w16 ?_
 refine w2 ?_
 exact Qc<|lK_ ((QnW t (by first|exact Qjl G ‹_› | exact Qjm (by first|assumption|exact JN ‹_›)|exact Qjn (by first|assumption|exact JN ‹_›))))<|wo []
 refine w2 ?_
 refine lgy rfl rfl (dK (X9 b (k:Int)) Uc)<|w3 ?_
 cases L:(decide ((k:Int)∈b))
 refine w2 ?_
 refine lgy rfl rfl (dK (X9 d (k:Int)) Uc)<|w3 ?_
 cases M:(decide ((k:Int)∈d))
 refine w5 ?_
 exact fqI F<|QDL D (by omega) G ‹_› (by first|assumption|exact JN ‹_›) (by first|assumption|exact JN ‹_›)
 refine w6 ?_
 exact Qc<|lK_ ((QnW t (by first|exact Qjl G ‹_› | exact Qjm (by first|assumption|exact JN ‹_›)|exact Qjn (by first|assumption|exact JN ‹_›))))<|wo []
 refine w12 ?_
 exact Qc<|lK_ ((QnW t (by first|exact Qjl G ‹_› | exact Qjm (by first|assumption|exact JN ‹_›)|exact Qjn (by first|assumption|exact JN ‹_›))))<|wo []
 have x:=aa v
 refine w5 ?_
 obtain ⟨q,p⟩:=gx b i
 have O:=p
 have a4:=hR _ (ah p)
 refine w2 ?_
 refine alI 20 fun _=> ?_
 refine w7 ?_
 obtain ⟨W,r⟩:=gx c.2.1 ((q).toNat)
 have C:=r
 have T:=(s.codes _ (ah r)).2
 refine w2 ?_
 refine lc (dK (YA cube W (by omega)) Wo)<|w2 ?_
 cases N:(ZK cube W)
 refine w5 ?_
 exact fqI F<|QDK O C ‹_›
 refine w6 ?_
 exact Qc<|lK_ ((D.step O (QA9 C ‹_›)))<|wo []
abbrev BSt:=BA×Bool
noncomputable def bcS (c:DSg) (R Q:List Int) (st:BSt) (cube:BA):BSt:=if (!st.2||decide (Y7 [cube]<Y7 [st.1]))=true∧J4 c R Q cube=0 then (cube,true) else st
noncomputable def bcK (c:DSg) (R Q:List Int) (k:Nat):BSt:=((Q9 ((c.1.length:Int)).toNat).take k).foldl (bcS c R Q) (⟨#[]⟩,false)
noncomputable def bcV (c:DSg) (R Q:List Int):BSt:=(Q9 ((c.1.length:Int)).toNat).foldl (bcS c R Q) (⟨#[]⟩,false)
section
variable {c:DSg}{R Q:List Int}{cu b:BA}{f v:Bool}{k:Nat}{l:List BA}
def gd1 (h:cu.size≤1000):GdL [cu]:=⟨by simp,fun x a=>by rw[aI] at a;rw[a];exact h⟩
def Qtg (a:(Q9 ((c.1.length:Int)).toNat)[k]? =some cu):bcK c R Q (k+1)=bcS c R Q (bcK c R Q k) cu:=by unfold bcK;rw[Qr a,bN];rfl
def QCH (i:(Q9 ((c.1.length:Int)).toNat)[k]? =some cu)(e:(b,f)=bcK c R Q k)(a:f=false∨Y7 [cu]<Y7 [b])(d:J4 c R Q cu=0):(cu,true)=bcK c R Q (k+1):=by
 have g:(!f||decide (Y7 [cu]<Y7 [b]))=true:=by
  rcases a with h|h
  ·rw[h];rfl
  ·rw[ay h];simp
 rw[Qtg i,← e,bcS,if_pos ⟨g,d⟩]
def QCG (i:(Q9 ((c.1.length:Int)).toNat)[k]? =some cu)(e:(b,f)=bcK c R Q k)(a:f=true)(d:¬Y7 [cu]<Y7 [b]):(b,true)=bcK c R Q (k+1):=by
 have h:¬((!f||decide (Y7 [cu]<Y7 [b]))=true∧J4 c R Q cu=0):=fun g=>by
  have:=g.1
  rw[a,aj d] at this
  simp at this
 rw[Qtg i,← e,bcS,if_neg h,a]
def Qzd (h:(Q9 ((c.1.length:Int)).toNat)[k]? =some cu)(e:(b,f)=bcK c R Q k)(d:f=v)(a:¬J4 c R Q cu=0):(b,v)=bcK c R Q (k+1):=by
 rw[Qtg h,← e,bcS,if_neg fun g=>a g.2,d]
def Qth (e:(b,f)=bcK c R Q k)(a:(Q9 ((c.1.length:Int)).toNat).length≤k):(b,f)=bcV c R Q:=by rw[e];unfold bcK bcV;rw[aJ a]
def QCW (a:(Q9 ((c.1.length:Int)).toNat)[k]? =some cu)(d:c.1.length≤8):cu.size=c.1.length∧cu.size≤1000:=by
 have:=XC (ah a)
 omega
end
def Qee (c:Yw)(a:List Int)(d:List Int)(y:SgOk c)(A:∀q∈a,0≤q∧q<(c.2.1.length:Int)):FC prog 291 [(true,[.dat Qj c.1,.dat Qd c.2.1,.dat Qq c.2.2]),(false,[.dat Qv a]),(false,[.dat Qv d])] [] 0 (QJ (PV.tup [(false,[dS ((bcV c a d).1)]),(false,[dB ((bcV c a d).2)])])):=by
 have P:=y.sigs.2.2
 refine Ql func291 rfl rfl ntmps291 fun N J M E O I H=>w_ ?_
 refine xbx 0 ?_
 refine w12 ?_
 refine lc (dK (KC (c.1.length:Int) (by omega)).frozen Qf0)<|alL 15 fun _=> ?_
 refine w4 ?_
 refine Qy (fun C D=>∃(k:Nat) (i:BA) (u:Bool),k≤(Q9 (c.1.length:Int).toNat).length∧C=(Q9 (c.1.length:Int).toNat).length - k∧((i,u)=bcK c a d k)∧(i.size≤1000)∧D=⟨[(1,lf (.dat Qv a)),(2,lf (.dat Qv d)),(3,lP 0 0),(6,lf (dS (⟨#[]⟩:BA))),(7,lB false),(8,lf (dS i)),(9,lB u),(15,lf (.dat Qd (Q9 (c.1.length:Int).toNat))),(16,lI ((Q9 (c.1.length:Int).toNat).length:Int)),(17,lI (k:Int))],[bx 0 28 [.dat Qj c.1,.dat Qd c.2.1,.dat Qq c.2.2]]⟩) ⟨0,(⟨#[]⟩:BA),false,aL _,rfl,rfl,(aL _),rfl⟩ ?_ ?_
 exact wo []
 rintro C D ⟨k,i,u,K,L,p,h,rfl⟩
 refine w4 ?_
 cases w:(decide ((k:Int)<((Q9 (c.1.length:Int).toNat).length:Int)))
 have x:=ab w
 refine w10 ?_
 have F:(i:BA)=((bcV c a d).1):=by
  exact congrArg Prod.fst (Qth p (by omega))
 have G:(u:Bool)=((bcV c a d).2):=by
  exact congrArg Prod.snd (Qth p (by omega))
 exact fr_ J (e:=by rw[← F,← G] <;> rfl)
 have x:=aa w
 refine w5 ?_
 obtain ⟨cu,z⟩:=gx (Q9 (c.1.length:Int).toNat) k
 have g:=z
 have j:=QCW g (by omega)
 refine w8 ?_
 cases B:(u)
 refine w16 ?_
 refine lc (dK (Um c a d cu y (by omega) A) Qbr)<|w2 ?_
 cases m:(decide ((J4 c a d cu)=0))
 have r:=ab m
 refine w6 ?_
 exact Qc<|Zb ⟨k+1,i,false,by omega,rfl,(by exact Qzd g p (by first|assumption|rfl) ‹_›),(by exact h),rfl⟩ (by omega)<|wo []
 have r:=aa m
 refine w7 ?_
 refine Qc<|w4 ?_
 exact Qc<|Zb ⟨k+1,cu,true,by omega,rfl,(by exact QCH g p (.inl ‹_›) ‹_›),(by exact j.2),rfl⟩ (by omega)<|wo []
 refine w_ ?_
 refine lgy rfl rfl (dBs 1 (e:= .str) Wd)<|lgy rfl rfl (dB_ (YT ([cu]) (gd1 (by first|exact j.2|exact h))) Jh)<|w_ ?_
 refine lgy rfl rfl (dBs 2 (e:= .str) Wd)<|lgy rfl rfl (dB_ (YT ([i]) (gd1 (by first|exact j.2|exact h))) Jh)<|w3 ?_
 cases n:(decide ((Y7 ([i]))≤(Y7 ([cu]))))
 have s:=ab n
 refine w7 ?_
 refine lc (dK (Um c a d cu y (by omega) A) Qbr)<|w2 ?_
 cases o:(decide ((J4 c a d cu)=0))
 have t:=ab o
 refine w6 ?_
 exact Qc<|Zb ⟨k+1,i,true,by omega,rfl,(by exact Qzd g p (by first|assumption|rfl) ‹_›),(by exact h),rfl⟩ (by omega)<|wo []
 have t:=aa o
 refine w7 ?_
 refine Qc<|w4 ?_
 exact Qc<|Zb ⟨k+1,cu,true,by omega,rfl,(by exact QCH g p (.inr (by omega)) ‹_›),(by exact j.2),rfl⟩ (by omega)<|wo []
 have s:=aa n
 refine w6 ?_
 exact Qc<|Zb ⟨k+1,i,true,by omega,rfl,(by exact QCG g p ‹_› (by omega)),(by exact h),rfl⟩ (by omega)<|wo []
def egF (s:Int):List (Int×Bool):=[(s,true),(s,false)]
def egL (c:DSg):List (Int×Bool):=(Qt c.1 c.1.length).flatMap egF
def Qfx (l:List Int):(l.flatMap egF).length=2*l.length:=by
 induction l with
 | nil=>rfl
 | cons x l a=>rw[di,ai,a,av];show 2+_=_;omega
abbrev DRc:=Int×Bool×List BA
noncomputable def rg1 (c:DSg) (e:Int×Bool):List (List Int):=regV c.2.2 (xS c.2.2 (e.1,e.2))
noncomputable def rcK (c:DSg) (e:Int×Bool) (i:Nat):List BA:=((rg1 c e).take i).map fun r=>(bcV c r (qV c e.1 r)).1
noncomputable def rcF (c:DSg) (e:Int×Bool):DRc:=(e.1,e.2,(rg1 c e).map fun r=>(bcV c r (qV c e.1 r)).1)
noncomputable def rcB (c:DSg) (e:Int×Bool):Bool:=(rg1 c e).all fun r=>(bcV c r (qV c e.1 r)).2
noncomputable def mcL (c:DSg):List DRc:=(egL c).map (rcF c)
def QcP (c:DSg):Prop:=(SgOk c∧Z6 c=ZB)∧(egL c).all (rcB c)=true
noncomputable instance [∀c,Decidable (SgOk c)] (c:DSg):Decidable (QcP c):=inferInstanceAs (Decidable (_∧_))
section
variable {c:DSg}{e:Int×Bool}{k i:Nat}{r:List Int}{cs:List BA}{s:Int}
def Qmd:e∈egL c↔e.1∈Qt c.1 c.1.length:=by
 unfold egL
 rw[cj]
 constructor
 ·rintro ⟨s,d,h⟩
  simp only[egF,aK,bO,or_false] at h
  rcases h with rfl|rfl <;> exact d
 ·intro h
  refine ⟨e.1,h,?_⟩
  obtain ⟨a,b⟩:=e
  cases b <;> simp[egF]
def QpF (h:s∈Qt c.1 c.1.length):0≤s∧s≤(c.1.length:Int) - 1:=by
 unfold Qt at h
 obtain ⟨i,a,rfl⟩:=aW.1 h
 have:=bC.1 (bA.1 a).1
 omega
def QAm (h:(egL c)[k]? =some e):0≤e.1∧e.1≤(c.1.length:Int) - 1:=QpF (Qmd.1 (ah h))
def QAl:(egL c).length≤2*c.1.length:=by
 have a:=Qfx (Qt c.1 c.1.length)
 have d:=XQ (ss:=c.1) (k:=c.1.length)
 have f:(egL c).length=((Qt c.1 c.1.length).flatMap egF).length:=rfl
 omega
def QBG (h:(rg1 c e)[i]? =some r):∀q∈r,q∈xS c.2.2 (e.1,e.2):=Qlj (ah h)
def QEi (h:(rg1 c e)[i]? =some r):rcK c e i++[(bcV c r (qV c e.1 r)).1]=rcK c e (i+1):=by unfold rcK;rw[Qr h,aT];rfl
def Qyn:(rcK c e i).length≤(rg1 c e).length:=by unfold rcK;rw[aC,au];omega
def QBB (h:∀j,j<i→∀r,(rg1 c e)[j]? =some r→(bcV c r (qV c e.1 r)).2=true)(hi:(rg1 c e).length≤i):rcB c e=true:=ao.2 fun r d=>by
 obtain ⟨j,a⟩:=aG.1 d
 exact h j (ba (ae.1 a).1 hi) r a
def QBC (hi:(rg1 c e).length≤i):(e.1,e.2,rcK c e i)=rcF c e:=by unfold rcF rcK;rw[aJ hi]
def QzI (h:(rg1 c e)[i]? =some r)(hb:(bcV c r (qV c e.1 r)).2=false):rcB c e=false:=dE.2 ⟨r,ah h,by rw[hb];decide⟩
def Qpv (h:¬(SgOk c∧Z6 c=ZB)):¬QcP c:=fun g=>h g.1
def QbW {α:Type}{l:List α}{P:α→Prop}{x:α}(h:∀j,j<k→∀e,l[j]? =some e→P e)(f:l[k]? =some x)(d:P x):∀j,j<k+1→∀e,l[j]? =some e→P e:=fun j n e a=>by
 by_cases g:j=k
 ·subst g;rw[f] at a;cases a;exact d
 ·exact h j (by omega) e a
def QuT {α β:Type}{l:List α}{f:α→β}{x:α}{y:β}(a:l[k]? =some x)(d:y=f x):(l.take k).map f++[y]=(l.take (k+1)).map f:=by rw[Qr a,aT,d];rfl
end
section
variable {c:DSg}{k m:Nat}{sg:Int}{b:Bool}{l:List Int}
def Qx8 {β:Type}{f:Int×Bool→β}(d:l[k]? =some sg)(a:[true,false].length≤m):((l.take k).flatMap egF).map f++([true,false].take m).map (fun b=>f (sg,b))=((l.take (k+1)).flatMap egF).map f:=by
 rw[aJ a,Qr d,cF,aT]
 simp[egF]
def QrI {α β:Type}{A:List β}{l:List α}{f:α→β}{x:α}{y:β}(a:l[k]? =some x)(d:y=f x):A++(l.take k).map f++[y]=A++(l.take (k+1)).map f:=by rw[aM,QuT a d]
def QEA (h:∀j,j<m→∀b,[true,false][j]? =some b→rcB c (sg,b)=true)(a:[true,false].length≤m):rcB c (sg,true)=true∧rcB c (sg,false)=true:=⟨h 0 (ba (by decide) a) true rfl,h 1 (ba (by decide) a) false rfl⟩
def Qpx (o:SgOk c∧Z6 c=ZB)(h:∀j,j<k→∀s,(Qt c.1 c.1.length)[j]? =some s→rcB c (s,true)=true∧rcB c (s,false)=true)(n:(Qt c.1 c.1.length).length≤k):QcP c:=⟨o,ao.2 fun e g=>by
 obtain ⟨j,f⟩:=aG.1 (Qmd.1 g)
 have d:=h j (ba (ae.1 f).1 n) e.1 f
 obtain ⟨a,b⟩:=e
 cases b
 ·exact d.2
 ·exact d.1⟩
def Qpw (a:(Qt c.1 c.1.length)[k]? =some sg)(h:rcB c (sg,b)=false):¬QcP c:=fun g=>by
 have:=ao.1 g.2 (sg,b) (Qmd.2 (ah a))
 rw[this] at h;cases h
def QA4 (a:(Qt c.1 c.1.length).length≤k):(((Qt c.1 c.1.length).take k).flatMap egF).map (rcF c)=mcL c:=by rw[aJ a];rfl
def QBf {f:Int×Bool→DRc}:(((l.take k).flatMap egF).map f).length≤2*l.length:=by
 have:=Qfx (l.take k)
 rw[aC,this,au];omega
def QBX {f:Bool→DRc}:(([true,false].take m).map f).length≤2:=by
 rw[aC,au];exact Nat.min_le_right ..
end
def U9 (c:Yw)[∀c,Decidable (SgOk c)]:FC prog 242 [(true,[.dat Qj c.1,.dat Qd c.2.1,.dat Qq c.2.2])] [] 0 (Is (PV.tup [(false,[.ref 0]),(false,[dB (decide (QcP c))])]) [ar 0 313 JQ (if QcP c then mcL c else [])]):=by
 refine Ql func242 rfl rfl ntmps242 fun O_ K a9 a0 X_ a2 a1=>w_ ?_
 refine xbx 0 ?_
 refine w6 ?_
 refine lc (dK (YC c) W2)<|w2 ?_
 cases D:(decide (SgOk c))
 have E:=ab D
 refine w10 ?_
 refine AC.wk (Wk.nilS 1 2 313 JQ rfl (Fresh.of rfl) (nlr rfl))<|w_ ?_
 have e2:(false:Bool)=(decide (QcP c)):=by
  exact (aj (Qpv (fun g=>absurd g.1 ‹_›))).symm
 exact fi_ [(0,1)] K ⟨(Qg (by (rw[if_neg (Qpv (fun g=>absurd g.1 ‹_›))];done))),trivial⟩ (h0:=by rw[← e2] <;> rfl)
 have E:=aa D
 refine w_ ?_
 refine lgy rfl rfl (dK (Xl c (by assumption:SgOk c).w) V4)<|w3 ?_
 refine cn_ (fun _ _=> ?_) fun _ _=> ?_
 refine w_ ?_
 refine Q5 ?_
 have O:SgOk c∧Z6 c=ZB:=⟨by assumption,by assumption⟩
 have A:=O.1
 have W:∀a∈c.2.2,InR c.2.1.length a:=fun a ha=>We (A.arcs a ha)
 have a6:=A.some_
 have h8:=A.sigs.2.2
 have a7:=XQ (ss:=c.1) (k:=c.1.length)
 refine w6 ?_
 refine lc (dK (Wi c (by omega)).frozen K9)<|alL 23 fun _=> ?_
 refine w4 ?_
 refine AC.wk (Wk.nilS 2 4 313 JQ rfl (Fresh.of rfl) (nlr rfl))<|lpK ((Qt c.1 c.1.length).length) (fun k=>∀j,j<k→∀s,(Qt c.1 c.1.length)[j]? =some s→rcB c (s,true)=true∧rcB c (s,false)=true) (fun k=>⟨[(1,lP 0 0),(4,lR 3),(23,lf (.dat Qv (Qt c.1 c.1.length))),(24,lI ((Qt c.1 c.1.length).length:Int)),(25,lI (k:Int))],[bx 0 28 [.dat Qj c.1,.dat Qd c.2.1,.dat Qq c.2.2],ar 3 313 JQ ((((Qt c.1 c.1.length).take k).flatMap egF).map (rcF c))]⟩) ((fun j H=>absurd H (aS j))) ?_ fun k _ v=> ?_
 exact wp [(3,2)] ⟨rfl,(Qg (rfl)),trivial⟩
 have a5:=QBf (k:=k) (l:=Qt c.1 c.1.length) (f:=rcF c)
 refine w4 ?_
 cases F:(decide ((k:Int)<((Qt c.1 c.1.length).length:Int)))
 have G:=ab F
 refine w9 ?_
 have e7:(true:Bool)=(decide (QcP c)):=by
  exact (ay (Qpx O v (by omega))).symm
 exact fi_ [(0,3)] K ⟨(Qg (by (rw[if_pos (Qpx O v (by omega))];exact QA4 (by omega)))),trivial⟩ (h0:=by rw[← e7] <;> rfl)
 have G:=aa F
 refine w5 ?_
 obtain ⟨sg,R⟩:=gx (Qt c.1 c.1.length) k
 have o:=R
 have Q:=QpF (ah o)
 refine w5 ?_
 refine lc (dBs 4 (e:= .bool) QEY)<|w4 ?_
 refine lpK (([true,false]).length) (fun m=>∀j,j<m→∀b,[true,false][j]? =some b→rcB c (sg,b)=true) (fun m=>⟨[(1,lP 0 0),(4,lR 5),(6,lI sg),(23,lf (.dat Qv (Qt c.1 c.1.length))),(24,lI ((Qt c.1 c.1.length).length:Int)),(25,lI (k:Int)),(29,lR 4),(30,lI (([true,false]).length:Int)),(31,lI (m:Int))],[bx 0 28 [.dat Qj c.1,.dat Qd c.2.1,.dat Qq c.2.2],ar 4 4 .bool ([true,false]),ar 5 313 JQ ((((Qt c.1 c.1.length).take k).flatMap egF).map (rcF c)++([true,false].take m).map (fun b=>rcF c (sg,b)))]⟩) ((fun j H=>absurd H (aS j))) ?_ fun m _ C=> ?_
 exact wp [(5,3)] ⟨rfl,rfl,(Qg ((bH _).symm)),trivial⟩
 have V:=QBX (m:=m) (f:=fun b=>rcF c (sg,b))
 refine w4 ?_
 cases t:(decide ((m:Int)<(([true,false]).length:Int)))
 have x:=ab t
 refine w6 ?_
 exact Qc<|lK_ ((QbW (P:=fun s=>rcB c (s,true)=true∧rcB c (s,false)=true) v o (QEA C (by omega))))<|wp [(3,5)] ⟨rfl,(Qg ((Qx8 o (by omega)))),trivial⟩
 have x:=aa t
 refine w6 ?_
 obtain ⟨h,I⟩:=gx ([true,false]) m
 have z:=I
 have a4:m<2:=(ae.1 z).1
 have a8:=Qjy (l:=(sg,h)) W
 have X:(rg1 c (sg,h)).length=(regV c.2.2 (xS c.2.2 (sg,h))).length:=rfl
 refine w6 ?_
 refine lc (Qh QwQ ⟨_,_,rfl,(Qm rfl),⟨_,_,rfl,(Qm rfl),rfl⟩⟩ (ao.1 rfl) rfl rfl)<|lc (xal 6 JQ QcJ)<|w7 ?_
 refine lc (dK (YB c sg h A Q).frozen Ud)<|alL 41 fun _=> ?_
 refine w4 ?_
 refine AC.wk (Qo 7 (p:=6) (off:=2) 9 .str rfl rfl (Fresh.of rfl) (nlr rfl))<|Qy (fun Y Z=>∃(i:Nat) (cb_:List BA),i≤(regV c.2.2 (xS c.2.2 (sg,h))).length∧Y=(regV c.2.2 (xS c.2.2 (sg,h))).length - i∧(cb_=rcK c (sg,h) i)∧(∀j,j<i→∀r,(rg1 c (sg,h))[j]? =some r→(bcV c r (qV c sg r)).2=true)∧Z=⟨[(1,lP 0 0),(4,lR 5),(6,lI sg),(9,lP 6 0),(23,lf (.dat Qv (Qt c.1 c.1.length))),(24,lI ((Qt c.1 c.1.length).length:Int)),(25,lI (k:Int)),(29,lR 4),(30,lI (([true,false]).length:Int)),(31,lI (m:Int)),(41,lf (.dat Y2 (regV c.2.2 (xS c.2.2 (sg,h))))),(42,lI ((regV c.2.2 (xS c.2.2 (sg,h))).length:Int)),(43,lI (i:Int))],[bx 0 28 [.dat Qj c.1,.dat Qd c.2.1,.dat Qq c.2.2],ar 4 4 .bool ([true,false]),ar 5 313 JQ ((((Qt c.1 c.1.length).take k).flatMap egF).map (rcF c)++([true,false].take m).map (fun b=>rcF c (sg,b))),bx 6 313 [dI sg,dB h,.ref 8],ar 8 9 .str cb_]⟩) ⟨0,([]:(Qd:Ty).Den),aL _,rfl,rfl,(fun j H=>absurd H (aS j)),rfl⟩ ?_ ?_
 exact wp [(8,7)] ⟨rfl,rfl,rfl,rfl,(Qg (by first|rfl|simp)),trivial⟩
 rintro Y Z ⟨i,cb_,T,U,N,B,rfl⟩
 have a3:cb_.length≤(rg1 c (sg,h)).length:=by rw[N];exact Qyn
 refine w4 ?_
 cases u:(decide ((i:Int)<((regV c.2.2 (xS c.2.2 (sg,h))).length:Int)))
 have y:=ab u
 refine w6 ?_
 refine lc (dBs 9 (e:=JQ) QcJ (hab:=by exact ⟨_,_,_,_,rfl,⟨[dI sg],[dB h,.ref 8],_,_,_,_,rfl,rfl,⟨rfl,rfl⟩,⟨[dB h],[.ref 8],_,_,_,_,rfl,rfl,⟨rfl,rfl⟩,(.inl ⟨_,rfl,rfl,rfl⟩),rfl⟩,rfl⟩,⟨rfl,rfl⟩,rfl⟩))<|lc (dA 10 Qxm)<|w_ ?_
 refine Qc<|w4 ?_
 exact Qc<|lK_ ((QbW (P:=fun b=>rcB c (sg,b)=true) C z (QBB B (by omega))))<|wp [(5,10)] ⟨rfl,rfl,(Qg ((QrI z (by rw[N];exact QBC (e:=(sg,h)) (by omega))))),trivial⟩
 have y:=aa u
 refine w5 ?_
 obtain ⟨d,J⟩:=gx (regV c.2.2 (xS c.2.2 (sg,h))) i
 have n:(rg1 c (sg,h))[i]? =some d:=J
 refine w4 ?_
 apply dW (i5 48 _ _ _ _ _ (io 53 (lf (.dat Qv (qV c sg d)))::io 54 (PV.tup [(false,[dS ((bcV c d (qV c sg d)).1)]),(false,[dB ((bcV c d (qV c sg d)).2)])])::io 47 _::i2 55 _ _ (i2 12 _ _ []))) [0,1,3,7,15,3,0,0,0,256,512,0]
 refine z5 ?_
 exact zz (fun _ h_=>ac (dK (KE c sg d A).frozen QfX) rfl)<|zz (fun _ h_=>ac (dK (Qee c d (qV c sg d) A (fun q hq=>Qj2 W (QBG n q hq))) Qni) rfl)<|y5
 refine w5 ?_
 cases S:((bcV c d (qV c sg d)).2)
 refine w5 ?_
 refine AC.wk (Wk.nilS 11 2 313 JQ rfl (Fresh.of rfl) (nlr rfl))<|w_ ?_
 have L:(false:Bool)=(decide (QcP c)):=by
  exact (aj (Qpw o (QzI n ‹_›))).symm
 exact fi_ [(0,11)] K ⟨(Qg (by (rw[if_neg (Qpw o (QzI n ‹_›))];done))),trivial⟩ (h0:=by rw[← L] <;> rfl)
 refine w6 ?_
 refine lc (dBs 12 (e:= .str) Wd)<|lc (dA 13 Ub)<|w2 ?_
 refine Qc<|w4 ?_
 exact Qc<|Zb ⟨i+1,(cb_++([(bcV c d (qV c sg d)).1])),by omega,rfl,(by rw[N];exact QEi n),(QbW (P:=fun r=>(bcV c r (qV c sg r)).2=true) B n ‹_›),rfl⟩ (by omega)<|wp [(8,13)] ⟨rfl,rfl,rfl,rfl,(Qg (by first|rfl|simp)),trivial⟩
 refine w4 ?_
 refine AC.wk (Wk.nilS 14 2 313 JQ rfl (Fresh.of rfl) (nlr rfl))<|w_ ?_
 have M:(false:Bool)=(decide (QcP c)):=by
  exact (aj (Qpv (fun g=>absurd g.2 ‹_›))).symm
 exact fi_ [(0,14)] K ⟨(Qg (by (rw[if_neg (Qpv (fun g=>absurd g.2 ‹_›))];done))),trivial⟩ (h0:=by rw[← M] <;> rfl)
noncomputable def regA (c:DSg) (sig:Int) (up:Bool) (i:Int):List Int:=((regV c.2.2 (xS c.2.2 (sig,up)))[i.toNat]?).getD []
def QHa (c:DSg)(sig:Int):Prop:=(0≤sig∧sig≤(c.1.length:Int) - 1)∧Ya c sig=false∧SgOk c∧Z6 c=ZB
def Qwr (c:DSg)(sig:Int)(up:Bool)(i:Int):Prop:=((0≤sig∧sig≤(c.1.length:Int) - 1)∧Ya c sig=false∧SgOk c∧Z6 c=ZB)∧(0≤i∧i≤((regV c.2.2 (xS c.2.2 (sig,up))).length:Int) - 1)
noncomputable instance [∀c,Decidable (SgOk c)] (c:DSg) (sig:Int) (up:Bool) (i:Int):Decidable (Qwr c sig up i):=inferInstanceAs (Decidable (_∧_))
def CkP (c:DSg)(sig:Int)(up:Bool)(i:Int)(cube:BA):Prop:=Qwr c sig up i∧Zl cube (c.1.length:Int)
noncomputable instance [∀c,Decidable (SgOk c)] (c:DSg) (sig:Int) (up:Bool) (i:Int) (cube:BA):Decidable (CkP c sig up i cube):=inferInstanceAs (Decidable (_∧_))
noncomputable def ckV [∀c,Decidable (SgOk c)] (c:DSg) (sig:Int) (up:Bool) (i:Int) (cube:BA):Int:=if CkP c sig up i cube then J4 c (regA c sig up i) (qV c sig (regA c sig up i)) cube else 0
noncomputable def fdS (c:DSg) (sig:Int) (up:Bool) (i:Int):BSt:=bcV c (regA c sig up i) (qV c sig (regA c sig up i))
noncomputable def fdV [∀c,Decidable (SgOk c)] (c:DSg) (sig:Int) (up:Bool) (i:Int):BSt:=if Qwr c sig up i then fdS c sig up i else (⟨#[]⟩,false)
section
variable [∀c,Decidable (SgOk c)]{c:DSg}{sig i:Int}{up:Bool}{cube:BA}{reg Q:List Int}
def QBH (h:(regV c.2.2 (xS c.2.2 (sig,up)))[i.toNat]? =some reg):regA c sig up i=reg:=by unfold regA;rw[h];rfl
def QFE (b:CkP c sig up i cube)(h:(regV c.2.2 (xS c.2.2 (sig,up)))[i.toNat]? =some reg)(a:Q=qV c sig (((regV c.2.2 (xS c.2.2 (sig,up)))[i.toNat]?).getD [])):J4 c reg Q cube=ckV c sig up i cube:=by
 rw[ckV,if_pos b,QBH h,a,h];rfl
def Qz9 (h:¬CkP c sig up i cube):(0:Int)=ckV c sig up i cube:=(if_neg h).symm
def Qtz (h:¬CkP c sig up i cube):false=decide (CkP c sig up i cube):=(aj h).symm
def QAf (h:Zl cube (cube.size:Int))(a:(cube.size:Int)=(c.1.length:Int)):Zl cube (c.1.length:Int):=a▸h
end
def Ky (c:Yw)(sig:Int)(up:Bool)(i:Int)(cube:BA)[∀c,Decidable (SgOk c)]:FC prog 336 [(true,[.dat Qj c.1,.dat Qd c.2.1,.dat Qq c.2.2]),(false,[dI sig]),(false,[dB up]),(false,[dI i]),(false,[dS cube])] [] 0 (QJ (PV.tup [(false,[dI (ckV c sig up i cube)]),(false,[dB (decide (CkP c sig up i cube))])])):=by
 refine Ql func336 rfl rfl ntmps336 fun J l I w K C B=>acI 3 fun _=>w_ ?_
 refine xbx 0 ?_
 refine w8 ?_
 refine lc (dK (Kz c sig up i) Qnx)<|w11 ?_
 cases d:(decide (((0≤sig∧sig≤(c.1.length:Int) - 1)∧Ya c sig=false∧SgOk c∧Z6 c=ZB)∧(0≤i∧i≤((regV c.2.2 (xS c.2.2 (sig,up))).length:Int) - 1)))
 have f:=ab d
 refine w16 ?_
 refine w3 ?_
 have x:(0:Int)=(ckV c sig up i cube):=by
  exact Qz9 (fun g=>absurd g.1 ‹_›)
 have y:(false:Bool)=(decide (CkP c sig up i cube)):=by
  exact Qtz (fun g=>absurd g.1 ‹_›)
 exact fr_ l (e:=by rw[← x,← y] <;> rfl)
 have f:=aa d
 refine w_ ?_
 refine lgy rfl rfl (dK (JG cube) QfV)<|w3 ?_
 cases h:(decide (Zl cube (cube.size:Int)))
 have j:=ab h
 refine w14 ?_
 have z:(0:Int)=(ckV c sig up i cube):=by
  exact Qz9 (fun g=>(by assumption:¬Zl cube (cube.size:Int)) (g.2.2.1▸g.2))
 have A:(false:Bool)=(decide (CkP c sig up i cube)):=by
  exact Qtz (fun g=>(by assumption:¬Zl cube (cube.size:Int)) (g.2.2.1▸g.2))
 exact fr_ l (e:=by rw[← z,← A] <;> rfl)
 have j:=aa h
 refine w8 ?_
 refine cn_ (fun _ _=> ?_) fun _ _=> ?_
 refine w_ ?_
 have r:Qwr c sig up i:=‹_›
 have v:=r.1
 have t:=v.2.2.1
 have D:=QAf (c:=c) (by assumption:Zl cube (cube.size:Int)) ‹_›
 have u:CkP c sig up i cube:=⟨r,D⟩
 have H:∀a∈c.2.2,InR c.2.1.length a:=fun a F=>We (t.arcs a F)
 obtain ⟨reg,k⟩:=gx (regV c.2.2 (xS c.2.2 (sig,up))) ((i).toNat)
 have b:=k
 have s:∀q∈reg,q∈xS c.2.2 (sig,up):=Qlj (ah b)
 apply dW (i4 37 _ _ _ _ (io 41 (lf (.dat Y2 (regV c.2.2 (xS c.2.2 (sig,up)))))::i5 42 _ _ _ _ _ (io 47 (lI (J4 c reg (if ((0≤sig∧sig≤(c.1.length:Int) - 1)∧Ya c sig=false∧SgOk c∧Z6 c=ZB)∧(0≤i∧i≤((regV c.2.2 (xS c.2.2 (sig,up))).length:Int) - 1) then qV c sig (((regV c.2.2 (xS c.2.2 (sig,up)))[i.toNat]?).getD []) else []) cube))::i2 10 _ _ []))) [0,1,3,7,1,31,1,1,255,511,0,0,0]
 refine z4 ?_
 refine zz (fun _ E=>ac (dK (YB c sig up t v.1).frozen Ud) rfl)<|z5 ?_
 exact zz (fun _ E=>ac (dK (Um c reg (if ((0≤sig∧sig≤(c.1.length:Int) - 1)∧Ya c sig=false∧SgOk c∧Z6 c=ZB)∧(0≤i∧i≤((regV c.2.2 (xS c.2.2 (sig,up))).length:Int) - 1) then qV c sig (((regV c.2.2 (xS c.2.2 (sig,up)))[i.toNat]?).getD []) else []) cube t (by omega) (fun q G=>Qj2 H (s q G))) Qbr) rfl)<|y2
 refine w_ ?_
 have m:(J4 c reg (if ((0≤sig∧sig≤(c.1.length:Int) - 1)∧Ya c sig=false∧SgOk c∧Z6 c=ZB)∧(0≤i∧i≤((regV c.2.2 (xS c.2.2 (sig,up))).length:Int) - 1) then qV c sig (((regV c.2.2 (xS c.2.2 (sig,up)))[i.toNat]?).getD []) else []) cube:Int)=(ckV c sig up i cube):=by
  exact QFE u b (if_pos r)
 have n:(true:Bool)=(decide (CkP c sig up i cube)):=by
  exact (ay u).symm
 exact fr_ l (e:=by rw[m,← n] <;> rfl)
 refine w5 ?_
 have o:(0:Int)=(ckV c sig up i cube):=by
  exact Qz9 (fun g=>absurd g.2.2.1 ‹_›)
 have p:(false:Bool)=(decide (CkP c sig up i cube)):=by
  exact Qtz (fun g=>absurd g.2.2.1 ‹_›)
 exact fr_ l (e:=by rw[← o,← p] <;> rfl)
def elE (m:DRc):Int×Bool:=(m.1,m.2.1)
def elB (c:DSg)(l:List DRc):Bool:=decide (l.map elE=egL c)
section
variable {c:DSg}{l:List DRc}{m:DRc}{k:Nat}{e:Int×Bool}{s:Int}
def QFK (b:l[k]? =some m)(a:(egL c)[k]? =some e)(h:¬(e.1=m.1∧e.2=m.2.1)):false=elB c l:=(aj fun g=>by
 have:=congrArg (fun z=>z[k]?) g
 simp only[bl,b,a,Option.map_some,br] at this
 exact h ⟨(congrArg Prod.fst this).symm,(congrArg Prod.snd this).symm⟩).symm
def QFL (h:∀j,j<k→∀m,l[j]? =some m→(egL c)[j]? =some (elE m))(b:l.length≤k):decide ((l.length:Int)=((egL c).length:Int))=elB c l:=by
 refine bu.2 ⟨fun g=> ?_,fun g=> ?_⟩
 ·refine bL fun j=> ?_
  rw[bl]
  cases a:l[j]? with
  | none=>
   rw[cQ] at a
   exact (bt (by omega)).symm
  | some m=>exact (h j (ba (ae.1 a).1 b) m a).symm
 ·have:=congrArg List.length g
  rw[aC] at this
  omega
def Qzj (h:elB c l=true):l.map elE=egL c:=aa h
def QCZ (h:elB c l=true)(a:l[k]? =some m):(egL c)[k]? =some (elE m):=by rw[← Qzj h,bl,a];rfl
def QtT (h:elB c l=true):l.length=(egL c).length:=by rw[← Qzj h,aC]
def QtU (h:elB c l=true)(a:l[k]? =some m):0≤m.1∧m.1≤(c.1.length:Int) - 1:=QAm (QCZ h a)
def Qzl:∀{l:List Int} {k:Nat} {s:Int},l[k / 2]? =some s→(l.flatMap egF)[k]? =some (s,decide ((k:Int) % 2=0))
 | [],k,s,h=>by cases h
 | x::l,0,s,h=>by
  obtain rfl:x=s:=by simpa using h
  rfl
 | x::l,1,s,h=>by
  obtain rfl:x=s:=by simpa using h
  rfl
 | x::l,k+2,s,h=>by
  have a:(k+2) / 2=k / 2+1:=by omega
  rw[a,cB] at h
  have:=Qzl h
  show (egF x++l.flatMap egF)[k+2]? =_
  rw[show egF x++l.flatMap egF=(x,true)::(x,false)::l.flatMap egF from rfl,cB,cB,this]
  congr 2
  refine bu.2 ?_
  omega
def Qzr (h:(Qt c.1 c.1.length)[((k:Int) / 2).toNat]? =some s):(egL c)[k]? =some (s,decide ((k:Int) % 2=0)):=Qzl (by rw[show k / 2=((k:Int) / 2).toNat by omega];exact h)
def QGi (h:¬(l.length:Int)=2*((Qt c.1 c.1.length).length:Int)):false=elB c l:=(aj fun g=>by
 have:=congrArg List.length g
 rw[aC] at this
 have a:=Qfx (Qt c.1 c.1.length)
 have b:(egL c).length=((Qt c.1 c.1.length).flatMap egF).length:=rfl
 omega).symm
def QDz (b:l[k]? =some m)(h:(Qt c.1 c.1.length)[((k:Int) / 2).toNat]? =some s)(a:¬(m.1=s∧m.2.1=decide ((k:Int) % 2=0))):false=elB c l:=QFK b (Qzr h) fun g=>a ⟨g.1.symm,g.2.symm⟩
def QGk (h:∀j,j<k→∀m,l[j]? =some m→(egL c)[j]? =some (elE m))(n:l[k]? =some m)(f:(Qt c.1 c.1.length)[((k:Int) / 2).toNat]? =some s)(b:m.1=s)(d:m.2.1=decide ((k:Int) % 2=0)):∀j,j<k+1→∀m,l[j]? =some m→(egL c)[j]? =some (elE m):=
 fun j p o a=>by
  by_cases g:j=k
  ·subst g;rw[n] at a;cases a
   rw[Qzr f];unfold elE;rw[b,d]
  ·exact h j (by omega) o a
def QGj (h:∀j,j<k→∀m,l[j]? =some m→(egL c)[j]? =some (elE m))(a:l.length≤k)(f:(l.length:Int)=2*((Qt c.1 c.1.length).length:Int)):true=elB c l:=by
 rw[← QFL h a]
 have b:=Qfx (Qt c.1 c.1.length)
 have d:(egL c).length=((Qt c.1 c.1.length).flatMap egF).length:=rfl
 exact (ay (by omega)).symm
def QFv {a b:Bool}(h:(a==b)=true):a=b:=by simpa using h
def QFu {a b:Bool}(h:(a==b)=false):¬a=b:=by simpa using h
def QFw {a b:Bool}(h:(!(a==b))=false):a=b:=by simpa using h
end
def Qef (c:Yw)(l:QAk)(B:c.1.length≤100000):FC prog 335 [(true,[.dat Qj c.1,.dat Qd c.2.1,.dat Qq c.2.2]),(false,[.dat Qg7 l])] [] 0 (QJ (lB (elB c l))):=by
 have C:=XQ (ss:=c.1) (k:=c.1.length)
 refine Ql func335 rfl rfl ntmps335 fun E r D x F z y=>w_ ?_
 refine xbx 0 ?_
 refine w4 ?_
 refine lc (dK (Wi c B).frozen K9)<|w7 ?_
 refine alL 12 fun _=> ?_
 refine w_ ?_
 refine lc (Qkg (Qn rfl) (Qa rfl) rfl (by omega))<|w2 ?_
 refine cn_ (fun _ _=> ?_) fun _ _=> ?_
 refine w8 ?_
 refine lpK l.length (fun k=>∀j,j<k→∀m,l[j]? =some m→(egL c)[j]? =some (elE m)) (fun k=>⟨[(5,lf (.dat Qv (Qt c.1 c.1.length))),(16,lf (.dat Qg7 l)),(17,lI (l.length:Int)),(18,lI (k:Int))],[]⟩) ((fun j A=>absurd A (aS j))) ?_ fun k _ u=> ?_
 exact wo []
 refine w4 ?_
 cases n:(decide ((k:Int)<(l.length:Int)))
 have o:=ab n
 refine w7 ?_
 refine fqB r ?_
 exact QGj u (by omega) (by omega)
 have o:=aa n
 refine w6 ?_
 obtain ⟨q,t⟩:=gx l k
 have f:=t
 refine w2 ?_
 refine lc (xal 1 JQ QcJ)<|w3 ?_
 obtain ⟨sg,p⟩:=gx (Qt c.1 c.1.length) (((k:Int) / 2).toNat)
 have h:=p
 cases b:(!decide (q.1=sg))
 have d:(q.1=sg):=QB b
 apply dW (i4 23 _ _ _ _ (io 27 (lI ((k:Int) / 2))::i2 28 _ _ (io 30 (lB false)::i4 31 _ _ _ _ [io 35 (lI ((k:Int) % 2)),io 36 _,io 37 (lB (!(q.2.1==(decide (((k:Int) % 2)=0))))),io 38 _]))) [0,0,3,7,7,3,3,0,0,0,0,1536,1536,1536,0,0]
 refine z4 ?_
 refine zz (fun _ a=>ac (Qfj (a.v rfl) (Qn rfl) rfl (by omega) (by omega)) rfl)<|z2 ?_
 refine zz (fun _ a=>ac (Qz (XW (XV b)) (Vk (a.v rfl) (a.v rfl) rfl)) rfl)<|z4 ?_
 refine zz (fun _ a=>day rfl (a.k rfl) (QbU (a.v rfl) (Qn rfl) rfl (by omega) (by omega)) rfl)<|z_ ?_
 exact zz (fun _ a=>day rfl (a.k rfl) (ZG (a.v rfl) (a.v rfl) rfl YY) rfl)<|y1
 cases w:(q.2.1==(decide (((k:Int) % 2)=0)))
 refine w5 ?_
 refine fqB r ?_
 exact QDz f h (fun g=>absurd g.2 (QFu ‹_›))
 refine w6 ?_
 exact Qc<|lK_ ((QGk u f h ‹_› (by first|assumption|exact QFv ‹_› | exact QFw ‹_›)))<|wo []
 have d:¬(q.1=sg):=QL b
 apply dW (i4 23 _ _ _ _ (io 27 (lI ((k:Int) / 2))::i2 28 _ _ (io 30 (lB true)::i8 31 _ _ _ _ _ _ _ _ []))) [0,0,3,7,7,3,3,0,0,0,0,1536,1536,1536,0,0]
 refine z4 ?_
 refine zz (fun _ a=>ac (Qfj (a.v rfl) (Qn rfl) rfl (by omega) (by omega)) rfl)<|z2 ?_
 exact zz (fun _ a=>ac (Qz (XW (XV b)) (Vk (a.v rfl) (a.v rfl) rfl)) rfl)<|y8
 refine w5 ?_
 refine fqB r ?_
 exact QDz f h (fun g=>absurd g.1 ‹_›)
 refine w4 ?_
 refine fqB r ?_
 exact QGi ‹_›
noncomputable def amK [∀c,Decidable (SgOk c)] (c:DSg) (m:DRc) (i:Nat):Bool:=decide (CkP c m.1 m.2.1 (i:Int) ((m.2.2[i]?).getD ByteArray.empty))&&decide (ckV c m.1 m.2.1 (i:Int) ((m.2.2[i]?).getD ByteArray.empty)=0)
noncomputable def am1 [∀c,Decidable (SgOk c)] (c:DSg) (m:DRc):Bool:=decide (m.2.2.length=(rg1 c (elE m)).length)&&(List.range m.2.2.length).all (amK c m)
def AmP [∀c,Decidable (SgOk c)](c:DSg)(l:List DRc):Prop:=(SgOk c∧Z6 c=ZB)∧elB c l=true
instance [∀c,Decidable (SgOk c)] (c:DSg) (l:List DRc):Decidable (AmP c l):=inferInstanceAs (Decidable (_∧_))
noncomputable def amV [∀c,Decidable (SgOk c)] (c:DSg) (l:List DRc):Bool:=decide (AmP c l)&&l.all (am1 c)
section
variable [∀c,Decidable (SgOk c)]{c:DSg}{l:List DRc}{m:DRc}{k i:Nat}{cu:BA}
def QqE (h:¬AmP c l):false=amV c l∧false=decide (AmP c l):=by
 have:=aj h
 exact ⟨by unfold amV;rw[this];rfl,this.symm⟩
def Qz1 (h:AmP c l)(b:l[k]? =some m)(a:am1 c m=false):false=amV c l:=by
 unfold amV
 rw[ay h,dE.2 ⟨m,ah b,by rw[a];decide⟩];rfl
def QFs (h:AmP c l)(b:∀j,j<k→∀m,l[j]? =some m→am1 c m=true)(d:l.length≤k):true=amV c l:=by
 unfold amV
 rw[ay h,ao.2 fun m f=>by
  obtain ⟨j,a⟩:=aG.1 f
  exact b j (ba (ae.1 a).1 d) m a];rfl
def QCu (h:¬(m.2.2.length:Int)=((rg1 c (elE m)).length:Int)):am1 c m=false:=by unfold am1;rw[aj fun g=>h (by rw[g])];rfl
def QiG (a:m.2.2[i]? =some cu):amK c m i=(decide (CkP c m.1 m.2.1 (i:Int) cu)&&decide (ckV c m.1 m.2.1 (i:Int) cu=0)):=by unfold amK;rw[a];rfl
def Qzb (a:m.2.2[i]? =some cu)(h:amK c m i=false):am1 c m=false:=by
 unfold am1
 rw[dE.2 ⟨i,bC.2 (ae.1 a).1,by rw[h];decide⟩];simp
def QCv (h:(m.2.2.length:Int)=((rg1 c (elE m)).length:Int))(a:∀j,j<i→amK c m j=true)(hi:m.2.2.length≤i):am1 c m=true:=by
 unfold am1
 rw[ay (by omega),ao.2 fun j b=>a j (ba (bC.1 b) hi)];rfl
def QCw (d:m.2.2[i]? =some cu)(a:CkP c m.1 m.2.1 (i:Int) cu)(b:ckV c m.1 m.2.1 (i:Int) cu=0):amK c m i=true:=by rw[QiG d,ay a,ay b];rfl
def QzZ (b:m.2.2[i]? =some cu)(a:¬CkP c m.1 m.2.1 (i:Int) cu):amK c m i=false:=by rw[QiG b,aj a];rfl
def Qz0 (b:m.2.2[i]? =some cu)(a:¬ckV c m.1 m.2.1 (i:Int) cu=0):amK c m i=false:=by rw[QiG b,aj a];simp
def QuS {P:Nat→Prop}(h:∀j,j<i→P j)(hi:P i):∀j,j<i+1→P j:=fun j a=>by
 by_cases g:j=i
 ·subst g;exact hi
 ·exact h j (by omega)
end
def JX (c:Yw)(l:QAk)[∀c,Decidable (SgOk c)]:FC prog 293 [(true,[.dat Qj c.1,.dat Qd c.2.1,.dat Qq c.2.2]),(false,[.dat Qg7 l])] [] 0 (QJ (PV.tup [(false,[dB (amV c l)]),(false,[dB (decide (AmP c l))])])):=by
 refine Ql func293 rfl rfl ntmps293 fun O_ t a5 Y X_ a1 a0=>w_ ?_
 refine xbx 0 ?_
 refine w6 ?_
 refine lc (dK (YC c) W2)<|w2 ?_
 cases C:(decide (SgOk c))
 have D:=ab C
 refine w16 ?_
 refine w_ ?_
 have Z:(false:Bool)=(amV c l):=by
  exact (QqE (fun g=>absurd g.1.1 ‹_›)).1
 have e3:(false:Bool)=(decide (AmP c l)):=by
  exact (QqE (fun g=>absurd g.1.1 ‹_›)).2
 exact fr_ t (e:=by rw[← Z,← e3] <;> rfl)
 have D:=aa C
 refine w_ ?_
 refine lgy rfl rfl (dK (Xl c (by assumption:SgOk c).w) V4)<|w3 ?_
 cases E:(!decide ((Z6 c)=(⟨#[109,97,100,101]⟩:BA)))
 have F:((Z6 c)=(⟨#[109,97,100,101]⟩:BA)):=QB E
 refine w2 ?_
 refine lgy rfl rfl (dK (Qef c l (by have:=(by assumption:SgOk c).sigs.2.2;omega)) Qnt)<|w3 ?_
 refine cx_ (fun _=> ?_) fun _=> ?_
 refine w5 ?_
 have e6:(false:Bool)=(amV c l):=by
  exact (QqE (fun g=>absurd (g.2.symm.trans ‹_›) (by decide))).1
 have e7:(false:Bool)=(decide (AmP c l)):=by
  exact (QqE (fun g=>absurd (g.2.symm.trans ‹_›) (by decide))).2
 exact fr_ t (e:=by rw[← e6,← e7] <;> rfl)
 refine w2 ?_
 refine Q5 ?_
 have d:AmP c l:=⟨⟨by assumption,by assumption⟩,by assumption⟩
 have hM:=d.1
 have I:=hM.1
 have V:=d.2
 have hr:∀a∈c.2.2,InR c.2.1.length a:=fun a ha=>We (I.arcs a ha)
 have a3:=I.some_
 have h8:=I.sigs.2.2
 have W:=QAl (c:=c)
 have a2:=QtT V
 refine w2 ?_
 refine alL 27 fun _=> ?_
 refine w4 ?_
 refine lpK l.length (fun k=>∀j,j<k→∀m,l[j]? =some m→am1 c m=true) (fun k=>⟨[(2,lP 0 0),(27,lf (.dat Qg7 l)),(28,lI (l.length:Int)),(29,lI (k:Int))],[bx 0 28 [.dat Qj c.1,.dat Qd c.2.1,.dat Qq c.2.2]]⟩) ((fun j U=>absurd U (aS j))) ?_ fun k _ A=> ?_
 exact wo []
 refine w4 ?_
 cases n:(decide ((k:Int)<(l.length:Int)))
 have u:=ab n
 refine w8 ?_
 have J:(true:Bool)=(amV c l):=by
  exact QFs d A (by omega)
 have K:(true:Bool)=(decide (AmP c l)):=by
  exact (ay d).symm
 exact fr_ t (e:=by rw[← J,← K] <;> rfl)
 have u:=aa n
 refine w5 ?_
 obtain ⟨b,G⟩:=gx l k
 have h:=G
 have a4:=Qjy (l:=(b.1,b.2.1)) hr
 have X:(rg1 c (elE b)).length=(regV c.2.2 (xS c.2.2 (b.1,b.2.1))).length:=rfl
 refine w2 ?_
 refine lc (xal 1 JQ QcJ)<|w8 ?_
 refine lc (dK (YB c b.1 b.2.1 I (QtU V h)).frozen Ud)<|w8 ?_
 refine alL 42 fun _=> ?_
 refine w3 ?_
 cases o:(!decide ((b.2.2.length:Int)=((regV c.2.2 (xS c.2.2 (b.1,b.2.1))).length:Int)))
 have v:((b.2.2.length:Int)=((regV c.2.2 (xS c.2.2 (b.1,b.2.1))).length:Int)):=QB o
 refine w9 ?_
 refine lpK b.2.2.length (fun i=>∀j,j<i→amK c b j=true) (fun i=>⟨[(2,lP 0 0),(7,lP 1 0),(27,lf (.dat Qg7 l)),(28,lI (l.length:Int)),(29,lI (k:Int)),(46,lf (.dat Qd b.2.2)),(47,lI (b.2.2.length:Int)),(48,lI (i:Int))],[bx 0 28 [.dat Qj c.1,.dat Qd c.2.1,.dat Qq c.2.2],bx 1 313 [dI b.1,dB b.2.1,.dat Qd b.2.2]]⟩) ((fun j U=>absurd U (aS j))) ?_ fun i _ B=> ?_
 exact wo []
 refine w4 ?_
 cases p:(decide ((i:Int)<(b.2.2.length:Int)))
 have x:=ab p
 refine w6 ?_
 exact Qc<|lK_ ((QbW (P:=fun m=>am1 c m=true) A h (QCv (by omega) B (by omega))))<|wo []
 have x:=aa p
 refine w6 ?_
 obtain ⟨cu,H⟩:=gx b.2.2 i
 have f:=H
 refine w13 ?_
 refine lc (dK (Ky c b.1 b.2.1 (i:Int) cu) Qnu)<|w10 ?_
 cases q:(decide (CkP c b.1 b.2.1 (i:Int) cu))
 have y:=ab q
 refine w10 ?_
 have L:(false:Bool)=(amV c l):=by
  exact Qz1 d h (Qzb f (QzZ f ‹_›))
 have M:(true:Bool)=(decide (AmP c l)):=by
  exact (ay d).symm
 exact fr_ t (e:=by rw[← L,← M] <;> rfl)
 have y:=aa q
 refine w4 ?_
 cases r:(!decide ((ckV c b.1 b.2.1 (i:Int) cu)=0))
 have z:((ckV c b.1 b.2.1 (i:Int) cu)=0):=QB r
 refine w6 ?_
 exact Qc<|lK_ ((QuS (P:=fun j=>amK c b j=true) B (QCw f ‹_› ‹_›)))<|wo []
 have z:¬((ckV c b.1 b.2.1 (i:Int) cu)=0):=QL r
 refine w6 ?_
 have N:(false:Bool)=(amV c l):=by
  exact Qz1 d h (Qzb f (Qz0 f ‹_›))
 have O:(true:Bool)=(decide (AmP c l)):=by
  exact (ay d).symm
 exact fr_ t (e:=by rw[← N,← O] <;> rfl)
 have v:¬((b.2.2.length:Int)=((regV c.2.2 (xS c.2.2 (b.1,b.2.1))).length:Int)):=QL o
 refine w6 ?_
 have Q:(false:Bool)=(amV c l):=by
  exact Qz1 d h (QCu ‹_›)
 have R:(true:Bool)=(decide (AmP c l)):=by
  exact (ay d).symm
 exact fr_ t (e:=by rw[← Q,← R] <;> rfl)
 have F:¬((Z6 c)=(⟨#[109,97,100,101]⟩:BA)):=QL E
 refine w12 ?_
 have S:(false:Bool)=(amV c l):=by
  exact (QqE (fun g=>absurd g.1.2 ‹_›)).1
 have T:(false:Bool)=(decide (AmP c l)):=by
  exact (QqE (fun g=>absurd g.1.2 ‹_›)).2
 exact fr_ t (e:=by rw[← S,← T] <;> rfl)
abbrev QGJ:BA:=⟨#[32]⟩
abbrev plT:BA:=⟨#[32,43,32]⟩
def nmA (s:List Qs)(i:Nat):BA:=((s[i]?).getD (ByteArray.empty,0)).1
def wd1 (s:List Qs)(cube:BA)(i:Nat):List BA:=if bAt cube (i:Int)=49 then [nmA s i] else if bAt cube (i:Int)=48 then [nmA s i++⟨#[39]⟩] else []
def wdL (s:List Qs)(cube:BA)(k:Nat):List BA:=(List.range k).flatMap (wd1 s cube)
def jnO (l:List BA)(sep:BA):BA:=if l=[] then ⟨#[]⟩ else jnB l sep
def orT (t d:BA):BA:=if t=⟨#[]⟩ then d else t
def prT (s:List Qs)(cube:BA):BA:=orT (jnO (wdL s cube s.length) QGJ) ⟨#[49]⟩
def cvO (s:List Qs)(l:List BA):BA:=jnO (l.map (prT s)) plT
def cvT (s:List Qs)(l:List BA):BA:=orT (cvO s l) ⟨#[48]⟩
def QCm (s:List Qs):Prop:=∀g∈s,1≤g.1.size∧g.1.size≤6
section
variable {s:List Qs}{cube w sep t:BA}{l L:List BA}{k i:Nat}{g:Qs}{u:UInt8}{B:Nat}
end
abbrev eqT:BA:=⟨#[32,61,32]⟩
abbrev nlT:BA:=⟨#[10]⟩
def rgT (c:DSg)(m:DRc):BA:=edT c.1 (m.1,m.2.1)++eqT++cvT c.1 m.2.2++nlT
def fmK (c:DSg)(l:List DRc)(k:Nat):BA:=((l.take k).map (rgT c)).foldl (fun a b=>a++b) ⟨#[]⟩
def FmP [∀c,Decidable (SgOk c)](c:DSg)(l:List DRc):Prop:=AmP c l∧∀m∈l,ZZ (c.1.length:Int) m.2.2
instance [∀c,Decidable (SgOk c)] (c:DSg) (l:List DRc):Decidable (FmP c l):=inferInstanceAs (Decidable (_∧_))
def QHo [∀c,Decidable (SgOk c)](c:DSg)(l:List DRc):BA:=if FmP c l then fmK c l l.length else ⟨#[]⟩
section
variable {c:DSg}{l:List DRc}{m:DRc}{k:Nat}{s:List Qs}{e:Int×Bool}{t:BA}
section
variable [∀c,Decidable (SgOk c)]
end
def ltQ (l:List BA):Prop:=l=[]∨ZZ (n0 l:Int) l
end
section
variable {l:List BA}{c:BA}
instance (l:List BA):Decidable (ltQ l):=inferInstanceAs (Decidable (_∨_))
def ltV (l:List BA):Int:=if ltQ l then Y7 l else 0
end
end Go.Proofs.YtjfpbcmfbnnooaaGreat
