import Derived.Test.YtjfpbcmfbnnooaaGreatPIg
set_option linter.all false
namespace Go.Proofs.YtjfpbcmfbnnooaaGreat
open Go.RowKit Tryz
set_option maxRecDepth 100000
set_option maxHeartbeats 4000000
abbrev DGt:=Int×Int×List BA×List BA
abbrev DCk:=List Qs×List DGt
def QcO (n:Int)(g:DGt):Prop:=((1≤g.2.1∧g.2.1≤2)∧ZZ n g.2.2.1)∧ZZ n g.2.2.2∧(g.2.1=1→g.2.2.2.length=0)
instance (n:Int) (g:DGt):Decidable (QcO n g):=inferInstanceAs (Decidable (_∧_))
def Xm (x:DCk):Prop:=(Z4 x.1∧x.2.map (fun g=>g.1)=Qt x.1 x.1.length)∧∀g∈x.2,QcO (x.1.length:Int) g
def nxG (g:DGt)(code:BA):Bool:=if g.2.1=2∧bAt code g.1=49 then !(inC g.2.2.2 code) else inC g.2.2.1 code
def exG (g:DGt)(code:BA):Bool:= !(nxG g code==decide (bAt code g.1=49))
def imR (c:DSg)(x:DCk)(k:Nat):Bool:=x.2.all fun g=>exG g (cdA c k)==Zq c (k:Int) g.1
def imB (c:DSg)(x:DCk):Bool:=(List.range c.2.1.length).all fun k=>imR c x k
section
variable [∀c,Decidable (SgOk c)]
def UV (c:DSg)(w:Bool)(sig:Int):DGt:=
 if w=true then (sig,2,mcV (c.1.length:Int) (QD c sig upT).1 (QD c sig upT).2,mcV (c.1.length:Int) (QD c sig Z1).1 (QD c sig Z1).2) else (sig,1,nfV c sig,[])
def YM (c:DSg)(w:Bool)(sig:Int):Bool:=
 if w=true then (decide (Zn c sig upT)&&decide (Zn c sig Z1))&&(mcB (c.1.length:Int) (QD c sig upT).1 (QD c sig upT).2&&mcB (c.1.length:Int) (QD c sig Z1).1 (QD c sig Z1).2) else nfB c sig
def Yr (c:DSg)(w:Bool):Prop:=(SgOk c∧Z6 c=ZB)∧((Qt c.1 c.1.length).all fun s=>YM c w s)=true
instance (c:DSg) (w:Bool):Decidable (Yr c w):=inferInstanceAs (Decidable (_∧_))
def YG (c:DSg)(w:Bool):DCk:=if Yr c w then (c.1,(Qt c.1 c.1.length).map (UV c w)) else ([],[])
variable {c:DSg}{w:Bool}{sig:Int}{k:Nat}{x:BA}
def QDk:UV c true sig=(sig,2,mcV (c.1.length:Int) (QD c sig upT).1 (QD c sig upT).2,mcV (c.1.length:Int) (QD c sig Z1).1 (QD c sig Z1).2):=if_pos rfl
def QAL:UV c false sig=(sig,1,nfV c sig,[]):=if_neg dd
def QAK:(UV c w sig).1=sig:=by unfold UV;split <;> rfl
def QnH (h:YM c true sig=true):(Zn c sig upT∧Zn c sig Z1)∧mcB (c.1.length:Int) (QD c sig upT).1 (QD c sig upT).2=true∧mcB (c.1.length:Int) (QD c sig Z1).1 (QD c sig Z1).2=true:=by
 unfold YM at h
 rw[if_pos rfl] at h
 simp only[aH,aY] at h
 exact ⟨h.1,h.2⟩
def QDi (h:YM c false sig=true):Zn c sig Zp∧mcB (c.1.length:Int) (QD c sig Zp).1 (QD c sig Zp).2=true:=by
 unfold YM at h
 rw[if_neg (by decide)] at h
 unfold nfB at h
 simp only[aH,aY] at h
 exact h
def Qxc {n:Int}{l:List BA}(h:ZZ n l):ZZ n []:=⟨h.1,aL _,fun c a=>absurd a bO⟩
def QDj (h:YM c w sig=true):QcO (c.1.length:Int) (UV c w sig):=by
 cases w with
 | true=>
  obtain ⟨_,b,a⟩:=QnH h
  rw[QDk]
  exact ⟨⟨⟨(by decide:(1:Int)≤2),(by decide:(2:Int)≤2)⟩,(Qjk b).1⟩,(Qjk a).1,fun e=>absurd (show (2:Int)=1 from e) (by decide)⟩
 | false=>
  obtain ⟨d,b⟩:=QDi h
  have e:nfV c sig=mcV (c.1.length:Int) (QD c sig Zp).1 (QD c sig Zp).2:=if_pos d
  rw[QAL]
  have a:=(Qjk b).1
  rw[← e] at a
  exact ⟨⟨⟨(by decide:(1:Int)≤1),(by decide:(1:Int)≤2)⟩,a⟩,Qxc a,fun _=>rfl⟩
def QCQ (h:Yr c w):Xm (YG c w):=by
 unfold YG
 rw[if_pos h]
 refine ⟨⟨h.1.1.sigs,?_⟩,fun g a=> ?_⟩
 ·show ((Qt c.1 c.1.length).map (UV c w)).map (fun g=>g.1)=Qt c.1 c.1.length
  rw[dL]
  refine (List.map_congr_left fun s _=> ?_).trans (List.map_id _)
  exact QAK
 ·obtain ⟨s,b,rfl⟩:=aW.1 a
  exact QDj (ao.1 h.2 s b)
def Qty (h:¬Yr c w):YG c w=([],[]):=if_neg h
def Ql6 (h:Yr c w):YG c w=(c.1,(Qt c.1 c.1.length).map (UV c w)):=if_pos h
end
section
variable {l:List Qs}{x:Qs}{k n:Nat}{c:DCk}{g:DGt}{a_:Int}
def QDZ (a:l[k]? =some x)(h:x.2=1):Qt l (k+1)=Qt l k:=by
 unfold Qt
 rw[bk,bg,aT]
 simp[a,h]
def Qn0 (a:l[k]? =some x)(h:¬x.2=1):Qt l (k+1)=Qt l k++[(k:Int)]:=by
 unfold Qt
 rw[bk,bg,aT]
 simp[a,h]
def Qn1:∀{n:Nat},k≤n→∃r,Qt l n=Qt l k++r
 | 0,h=>⟨[],by rw[show k=0 by omega,bH]⟩
 | n+1,h=>by
  by_cases e:k=n+1
  ·exact ⟨[],by rw[e,bH]⟩
  ·obtain ⟨r,a⟩:=Qn1 (n:=n) (by omega)
   unfold Qt at a ⊢
   rw[bk,bg,aT,a,aM]
   exact ⟨_,rfl⟩
def LgI (c:DCk)(k:Nat)(a_:Int):Prop:=(0≤a_∧a_≤(c.2.length:Int))∧(c.2.take a_.toNat).map (fun g=>g.1)=Qt c.1 k∧∀g∈c.2.take a_.toNat,QcO (c.1.length:Int) g
def QGh:LgI c 0 0:=⟨⟨cR _,dD _⟩,rfl,fun g a=>absurd a bO⟩
def QDu (h:LgI c k a_)(b:c.1[k]? =some x)(a:x.2=1):LgI c (k+1) a_:=⟨h.1,by rw[QDZ b a];exact h.2.1,h.2.2⟩
def QAY (h:LgI c k a_)(o:c.1[k]? =some x)(d:¬x.2=1)(b:c.2[a_.toNat]? =some g)(f:g.1=(k:Int))(i:QcO (c.1.length:Int) g):LgI c (k+1) (a_+1):=by
 obtain ⟨⟨p,q⟩,j,m⟩:=h
 have r:=(ae.1 b).1
 have e:(a_+1).toNat=a_.toNat+1:=by omega
 refine ⟨⟨by omega,by omega⟩,?_,?_⟩
 ·rw[e,Qr b,aT,j,Qn0 o d,← f];rfl
 ·rw[e,Qr b]
  intro z a
  rcases aO.1 a with a|a
  ·exact m z a
  ·rw[aI.1 a];exact i
def QnS (h:LgI c k a_):((Qt c.1 k).length:Int)=a_:=by
 obtain ⟨⟨b,d⟩,a,_⟩:=h
 rw[← a,aC,au];omega
def QDv (h:LgI c k a_)(b:c.1[k]? =some x)(d:¬x.2=1)(i:a_=(c.2.length:Int)):¬Xm c:=fun g=>by
 have e:=(ae.1 b).1
 obtain ⟨r,f⟩:=Qn1 (l:=c.1) (k:=k+1) (n:=c.1.length) e
 have a:=congrArg List.length g.1.2
 rw[f,Qn0 b d] at a
 simp only[aC,ai,av,aB] at a
 have:=QnS h
 omega
def QDw (h:LgI c k a_)(b:c.1[k]? =some x)(d:¬x.2=1)(f:c.2[a_.toNat]? =some g)(e:¬g.1=(k:Int)):¬Xm c:=fun q=>by
 have i:=(ae.1 b).1
 obtain ⟨r,j⟩:=Qn1 (l:=c.1) (k:=k+1) (n:=c.1.length) i
 have a:=congrArg (fun z:List Int=>z[a_.toNat]?) q.1.2
 have m:=QnS h
 rw[j,Qn0 b d,bl,f,aM,bw (by omega),show a_.toNat - (Qt c.1 k).length=0 by omega] at a
 simp at a
 exact e a
def QDx (b:c.2[a_.toNat]? =some g)(a:¬QcO (c.1.length:Int) g):¬Xm c:=fun q=>a (q.2 g (ah b))
def QAX [Decidable (Xm c)](i:Z4 c.1)(h:LgI c k a_)(p:c.1.length≤k)(f:k≤c.1.length):decide (a_=(c.2.length:Int))=decide (Xm c):=by
 have e:k=c.1.length:=by omega
 subst e
 have o:=QnS h
 obtain ⟨⟨j,m⟩,a,b⟩:=h
 refine bu.2 ⟨fun q=> ?_,fun q=> ?_⟩
 ·rw[aJ (by omega)] at a b
  exact ⟨⟨i,a⟩,b⟩
 ·have d:=congrArg List.length q.1.2
  rw[aC] at d
  omega
def QCP (h:¬Z4 c.1):¬Xm c:=fun q=>h q.1.1
end
section
variable {g:DGt}{code:BA}{u:UInt8}{x:DCk}{c:DSg}{k i:Nat}{t:BA}{s:List Qs}
def QCO (h:Xm x)(f:g∈x.2):(0≤g.1∧g.1<(x.1.length:Int))∧(g.2.1=1∨g.2.1=2)∧(∀c∈g.2.2.1,(c.size:Int)=(x.1.length:Int))∧(∀c∈g.2.2.2,(c.size:Int)=(x.1.length:Int))∧ZZ (x.1.length:Int) g.2.2.1∧ZZ (x.1.length:Int) g.2.2.2:=by
 have a:=h.2 g f
 have d:g.1∈Qt x.1 x.1.length:=by rw[← h.1.2];exact aW.2 ⟨g,f,rfl⟩
 refine ⟨?_,by have:=a.1.1;omega,fun c b=>(a.1.2.2.2 c b).2.1,fun c b=>(a.2.1.2.2 c b).2.1,a.1.2,a.2.1⟩
 unfold Qt at d
 obtain ⟨j,l,e⟩:=aW.1 d
 have:=bC.1 (bA.1 l).1
 omega
def ImP (c:DSg)(x:DCk):Prop:=(SgOk c∧Xm x)∧c.1=x.1
instance (c:DSg) (x:DCk) [Decidable (SgOk c)] [Decidable (Xm x)]:Decidable (ImP c x):=inferInstanceAs (Decidable (_∧_))
def imV (c:DSg)(x:DCk)[Decidable (SgOk c)][Decidable (Xm x)]:Bool:=decide (ImP c x)&&imB c x
abbrev slT:BA:=⟨#[32,47,32]⟩
def gtT (s:List Qs)(g:DGt):BA:=(((s[g.1.toNat]?).getD (ByteArray.empty,0)).1++eqT++cvT s g.2.2.1)++(if g.2.1=2 then slT++cvT s g.2.2.2 else ⟨#[]⟩)++nlT
def ftK (x:DCk)(k:Nat):BA:=((x.2.take k).map (gtT x.1)).foldl (fun a b=>a++b) ⟨#[]⟩
def ftV (x:DCk)[Decidable (Xm x)]:BA:=if Xm x then ftK x x.2.length else ⟨#[]⟩
def Qzu (h:Z4 s):QCm s:=fun g b=>by
 obtain ⟨k,a⟩:=aG.1 b
 exact (h.1 k (ae.1 a).1 g a).1.2
end
section
variable [∀c,Decidable (SgOk c)]{c:DSg}{sig:Int}{w:Bool}{k:Nat}{g:DGt}{gs:List DGt}
abbrev mcU (c:DSg)(sig:Int)(way:BA):List BA:=mcV (c.1.length:Int) (QD c sig way).1 (QD c sig way).2
abbrev QgA (c:DSg)(sig:Int)(way:BA):Bool:=mcB (c.1.length:Int) (QD c sig way).1 (QD c sig way).2
def gcV (c:DSg)(sig:Int):DGt:=if Zn c sig upT∧Zn c sig Z1 then (sig,2,mcU c sig upT,mcU c sig Z1) else (0,0,[],[])
def QDb (h:Zn c sig upT)(a:Zn c sig Z1):gcV c sig=(sig,2,mcU c sig upT,mcU c sig Z1)∧YM c true sig=(QgA c sig upT&&QgA c sig Z1):=by
 refine ⟨if_pos ⟨h,a⟩,?_⟩
 unfold YM
 rw[if_pos rfl,ay h,ay a];rfl
def QFV (h:YM c true sig=true):gcV c sig=UV c true sig:=by
 rw[(QDb (QnH h).1.1 (QnH h).1.2).1,QDk]
def QFU (h:Zn c sig Zp):YM c false sig=QgA c sig Zp∧UV c false sig=(sig,1,mcU c sig Zp,[]):=by
 refine ⟨?_,?_⟩
 ·unfold YM
  rw[if_neg dd]
  exact (QDR h).2
 ·rw[QAL,(QDR h).1]
def QDa (h:¬Zn c sig Zp):YM c false sig=false:=by
 unfold YM
 rw[if_neg dd]
 exact (QGm h).2
def GsI (c:DSg)(w:Bool)(k:Nat)(gs:List DGt):Prop:=gs=((Qt c.1 c.1.length).take k).map (UV c w)∧∀j,j<k→∀s,(Qt c.1 c.1.length)[j]? =some s→YM c w s=true
def QF0:GsI c w 0 []:=⟨rfl,fun j a=>absurd a (aS j)⟩
def QDh (h:GsI c w k gs)(b:(Qt c.1 c.1.length)[k]? =some sig)(hb:YM c w sig=true)(d:g=UV c w sig):GsI c w (k+1) (gs++[g]):=by
 refine ⟨by rw[h.1,d,Qr b,aT];rfl,fun j f s a=> ?_⟩
 by_cases e:j=k
 ·rw[e,b] at a;rw[← bD a];exact hb
 ·exact h.2 j (by omega) s a
def QAJ (h:GsI c w k gs):gs.length≤(Qt c.1 c.1.length).length:=by
 rw[h.1,aC,au];omega
def QCN (h:¬(SgOk c∧Z6 c=ZB)):YG c w=([],[])∧false=decide (Yr c w):=⟨Qty fun g=>h g.1,(aj fun g=>h g.1).symm⟩
def QFC (a:(Qt c.1 c.1.length)[k]? =some sig)(hb:YM c w sig=false):YG c w=([],[])∧false=decide (Yr c w):=by
 have h:¬Yr c w:=fun g=>by
  have:=ao.1 g.2 sig (ah a)
  rw[hb] at this;cases this
 exact ⟨Qty h,(aj h).symm⟩
def QFD (h0:SgOk c∧Z6 c=ZB)(h:GsI c w k gs)(d:(Qt c.1 c.1.length).length≤k):(c.1,gs)=YG c w∧true=decide (Yr c w):=by
 have a:Yr c w:=⟨h0,ao.2 fun s e=>by
  obtain ⟨j,b⟩:=aG.1 e
  exact h.2 j (ba (ae.1 b).1 d) s b⟩
 exact ⟨by rw[Ql6 a,h.1,aJ d],(ay a).symm⟩
end
section
variable {n:Int}{g:DGt}
def QDg (h:¬ZZ n g.2.2.1):¬QcO n g:=fun q=>h q.1.2
def QAd {l:List BA}(h:ZZ n l):ZZ n []:=⟨h.1,aL _,fun c a=>absurd a bO⟩
def QFX (b:g.2.1=1)(a:ZZ n g.2.2.1):decide ((g.2.2.2.length:Int)=0)=decide (QcO n g):=by
 refine bu.2 ⟨fun h=> ?_,fun q=>by have:=q.2.2 b;omega⟩
 have e:g.2.2.2=[]:=bF (by omega)
 exact ⟨⟨by omega,a⟩,by rw[e];exact QAd a,fun _=>by rw[e];rfl⟩
def QFY (b:g.2.1=2)(a:ZZ n g.2.2.1):decide (ZZ n g.2.2.2)=decide (QcO n g):=
 bu.2 ⟨fun h=>⟨⟨by omega,a⟩,h,fun e=>by omega⟩,fun q=>q.2.1⟩
def QFZ (a:¬g.2.1=1)(b:¬g.2.1=2):¬QcO n g:=fun q=>by have:=q.1.1;omega
end
def Qec (c:QtP)(g:Int×Int×List BA×List BA):FC prog 154 [(true,[.dat Qj c.1,.dat QdG c.2]),(true,[dI g.1,dI g.2.1,.dat Qd g.2.2.1,.dat Qd g.2.2.2])] [] 0 (QJ (lB (decide (QcO (c.1.length:Int) g)))):=by
 refine Ql func154 rfl rfl ntmps154 fun o a m h p l j=>w_ ?_
 refine xbx 0 ?_
 refine xbx 1 ?_
 refine w16 ?_
 refine w2 ?_
 refine cd_ (fun _ _=> ?_) fun _ _=> ?_
 refine w4 ?_
 refine cd_ (fun _ _=> ?_) fun _ _=> ?_
 refine w6 ?_
 refine fqB a ?_
 exact (aj (QFZ ‹_› ‹_›)).symm
 refine w4 ?_
 refine lc (dK (Wg (c.1.length:Int) g.2.2.1) Jc)<|w_ ?_
 cases b:(decide (ZZ (c.1.length:Int) g.2.2.1))
 have d:=ab b
 refine w8 ?_
 refine fqB a ?_
 exact (aj (QDg ‹_›)).symm
 have d:=aa b
 refine w3 ?_
 refine lgy rfl rfl (dK (Wg (c.1.length:Int) g.2.2.2) Jc)<|w4 ?_
 refine fqB a ?_
 exact QFY ‹_› ‹_›
 refine w4 ?_
 refine lc (dK (Wg (c.1.length:Int) g.2.2.1) Jc)<|w_ ?_
 cases e:(decide (ZZ (c.1.length:Int) g.2.2.1))
 have f:=ab e
 refine w8 ?_
 refine fqB a ?_
 exact (aj (QDg ‹_›)).symm
 have f:=aa e
 refine w8 ?_
 refine fqB a ?_
 exact QFX ‹_› ‹_›
def Qed (c:QtP)[∀c,Decidable (Xm c)](O:c.2.length≤100000):FC prog 74 [(true,[.dat Qj c.1,.dat QdG c.2])] [] 0 (QJ (lB (decide (Xm c)))):=by
 classical
 refine Ql func74 rfl rfl ntmps74 fun M t L F N H G=>w_ ?_
 refine xbx 0 ?_
 refine w6 ?_
 refine lc (dK (WH c.1) Qbb)<|w2 ?_
 cases w:(decide (Z4 c.1))
 have y:=ab w
 refine w5 ?_
 refine fqB t ?_
 exact (aj (QCP ‹_›)).symm
 have y:=aa w
 refine w9 ?_
 refine alL 11 fun _=> ?_
 refine w4 ?_
 refine Qy (fun D E=>∃(k:Nat) (j:Int),k≤c.1.length∧D=c.1.length - k∧(LgI c k j)∧E=⟨[(1,lP 0 0),(3,lI j),(11,lf (.dat Qj c.1)),(12,lI (c.1.length:Int)),(13,lI (k:Int))],[bx 0 32 [.dat Qj c.1,.dat QdG c.2]]⟩) ⟨0,0,aL _,rfl,QGh,rfl⟩ ?_ ?_
 exact wo []
 rintro D E ⟨k,j,J,K,s,rfl⟩
 have I:=s.1
 refine w4 ?_
 cases z:(decide ((k:Int)<(c.1.length:Int)))
 have A:=ab z
 refine w12 ?_
 refine fqB t ?_
 exact QAX ‹_› s (by omega) (by omega)
 have A:=aa z
 refine w6 ?_
 obtain ⟨sg,C⟩:=gx c.1 k
 have e:=C
 refine w2 ?_
 refine lc (xal 1 QG WO)<|w9 ?_
 cases f:(decide (sg.2=1))
 have l:=ab f
 refine w3 ?_
 cases b:(decide (j=(c.2.length:Int)))
 have m:=ab b
 obtain ⟨r,B⟩:=gx c.2 ((j).toNat)
 have q:=B
 cases d:(!decide (r.1=(k:Int)))
 have o:(r.1=(k:Int)):=QB d
 apply dW (i4 21 _ _ _ _ (io 25 (lB false)::i8 26 _ _ _ _ _ _ _ _ (io 34 (lB false)::i8 35 _ _ _ _ _ _ _ _ (io 43 (lB (decide (QcO (c.1.length:Int) r)))::i2 44 _ _ [])))) [0,1,1,1,0,0,0,0,192,0,0,0,4032,0,0,0,0,65536,65536,458752,65536,65536,0,0,0]
 refine z4 ?_
 refine zz (fun _ a=>ac (Qz (b) (Vi (a.v rfl) (a.v rfl) rfl)) rfl)<|z8 ?_
 refine zz (fun _ a=>day rfl (a.k rfl) (Qz (XW (XV d)) (Vk (a.v rfl) (a.v rfl) rfl)) rfl)<|z8 ?_
 exact zz (fun _ a=>day rfl (a.k rfl) (dK (Qec c r) Qmx) rfl)<|y2
 cases h:(decide (QcO (c.1.length:Int) r))
 have p:=ab h
 refine w5 ?_
 refine fqB t ?_
 exact (aj (QDx q ‹_›)).symm
 have p:=aa h
 refine w6 ?_
 refine Qc<|w4 ?_
 exact Qc<|Zb ⟨k+1,(j+1),by omega,rfl,(by exact QAY s e ‹_› q ‹_› ‹_›),rfl⟩ (by omega)<|wo []
 have o:¬(r.1=(k:Int)):=QL d
 apply dW (i4 21 _ _ _ _ (io 25 (lB false)::i8 26 _ _ _ _ _ _ _ _ (io 34 (lB true)::i9 35 _ _ _ _ _ _ _ _ _ (i2 44 _ _ [])))) [0,1,1,1,0,0,0,0,192,0,0,0,4032,0,0,0,0,65536,65536,458752,65536,65536,0,0,0]
 refine z4 ?_
 refine zz (fun _ a=>ac (Qz (b) (Vi (a.v rfl) (a.v rfl) rfl)) rfl)<|z8 ?_
 exact zz (fun _ a=>day rfl (a.k rfl) (Qz (XW (XV d)) (Vk (a.v rfl) (a.v rfl) rfl)) rfl)<|y11
 refine w5 ?_
 refine fqB t ?_
 exact (aj (QDw s e ‹_› q ‹_›)).symm
 have m:=aa b
 apply dW (i4 21 _ _ _ _ (io 25 (lB true)::i9 26 _ _ _ _ _ _ _ _ _ (i9 35 _ _ _ _ _ _ _ _ _ (i2 44 _ _ [])))) [0,1,1,1,0,0,0,0,192,0,0,0,4032,0,0,0,0,65536,65536,458752,65536,65536,0,0,0]
 refine z4 ?_
 refine zz (fun _ a=>ac (Qz (b) (Vi (a.v rfl) (a.v rfl) rfl)) rfl)<|z16 ?_
 exact y4
 refine w5 ?_
 refine fqB t ?_
 exact (aj (QDv s e ‹_› ‹_›)).symm
 have l:=aa f
 refine w6 ?_
 exact Qc<|Zb ⟨k+1,j,by omega,rfl,(by exact QDu s e ‹_›),rfl⟩ (by omega)<|wo []
section
variable {c:DSg}{x:DCk}{g:DGt}{code:BA}{k i:Nat}{u:UInt8}
end
def Qtx {c:DCk}(h:Xm c):QCm c.1∧c.1.length≤8∧c.2.length≤8:=by
 have a:=congrArg List.length h.1.2
 have d:=XQ (ss:=c.1) (k:=c.1.length)
 have b:=h.1.1.2.2
 rw[aC] at a
 exact ⟨Qzu h.1.1,b,by omega⟩
abbrev B3:List BA:=[⟨#[48]⟩,⟨#[49]⟩,⟨#[45]⟩]
def c3G (code:List UInt8):Nat→BA×Int×Int→BA×Int×Int
 | 0,st=>st
 | k+1,st=>c3G code k (st.1++(B3[(pkV code st.2.1 st.2.2 (B3.length:Int)).toNat]?).getD ByteArray.empty,pkA (B3.length:Int) st.2.1,pkS code st.2.1 st.2.2 (B3.length:Int))
def c3V (code:List UInt8)(n at_ sd:Int):BA×Int×Int:=c3G code n.toNat (⟨#[]⟩,at_,sd)
def QoM (code:List UInt8):∀(k:Nat) (st:BA×Int×Int),st.2.1≤(c3G code k st).2.1∧(c3G code k st).2.1≤st.2.1+2*k∧(c3G code k st).1.size≤st.1.size+k
 | 0,st=>by unfold c3G;omega
 | k+1,st=>by
  unfold c3G
  have h:=QoM code k (st.1++(B3[(pkV code st.2.1 st.2.2 (B3.length:Int)).toNat]?).getD ByteArray.empty,pkA (B3.length:Int) st.2.1,pkS code st.2.1 st.2.2 (B3.length:Int))
  have a:=(ZQ code st.2.1 st.2.2 (B3.length:Int)).2
  have b:=QiV B3 1 (by decide+kernel) (pkV code st.2.1 st.2.2 (B3.length:Int)).toNat
  simp only[aE] at h
  omega
def Qtu (code:List UInt8)(n at_ sd:Int)(b:0≤n∧n≤8):at_≤(c3V code n at_ sd).2.1∧(c3V code n at_ sd).2.1≤at_+16∧(c3V code n at_ sd).1.size≤8:=by
 have h:=QoM code n.toNat (⟨#[]⟩,at_,sd)
 have a:(⟨#[]⟩:BA).size=0:=rfl
 unfold c3V
 simp only[a] at h
 omega
def QwW {code:List UInt8}{n k a_ sd_:Int}{a:BA}{z:BA×Int×Int}(h:k<n)(b:z=c3G code (n - k).toNat (a,a_,sd_)):
 z=c3G code (n - (k+1)).toNat (a++(B3[(pkV code a_ sd_ (B3.length:Int)).toNat]?).getD ByteArray.empty,pkA (B3.length:Int) a_,pkS code a_ sd_ (B3.length:Int)):=by
 rw[b,show (n - k).toNat=(n - (k+1)).toNat+1 by omega,c3G]
def Ql2 {code:List UInt8}{n k a_ sd_:Int}{a:BA}{z:BA×Int×Int}(h:¬k<n)(b:z=c3G code (n - k).toNat (a,a_,sd_)):z=(a,a_,sd_):=by
 rw[b,show (n - k).toNat=0 by omega,c3G]
abbrev CSt:=List BA×Int×Int
def cvG (code:List UInt8)(n:Int):Nat→CSt→CSt
 | 0,st=>st
 | k+1,st=>cvG code n k (st.1++[(c3V code n st.2.1 st.2.2).1],(c3V code n st.2.1 st.2.2).2.1,(c3V code n st.2.1 st.2.2).2.2)
def cvL (x:BA):List BA:=[⟨#[]⟩,⟨#[120]⟩,x++⟨#[49]⟩]
def cvE (code:List UInt8)(st:CSt):CSt:=
 if 0<(st.1.length:Int) then
  (if pkV code st.2.1 st.2.2 15 = 0 then (st.1.set 0 (((cvL ((st.1[0]?).getD ByteArray.empty))[(pkV code (pkA 15 st.2.1) (pkS code st.2.1 st.2.2 15) 3).toNat]?).getD ByteArray.empty),pkA 3 (pkA 15 st.2.1),pkS code (pkA 15 st.2.1) (pkS code st.2.1 st.2.2 15) 3)
   else (st.1,pkA 15 st.2.1,pkS code st.2.1 st.2.2 15)) else st
def cvC (code:List UInt8)(n at_ sd:Int):CSt:=cvE code (cvG code n (pkV code at_ sd 5).toNat ([],pkA 5 at_,pkS code at_ sd 5))
def Qo0 (code:List UInt8){n:Int}(a:0≤n∧n≤8):∀(k:Nat) (st:CSt),st.2.1≤(cvG code n k st).2.1∧(cvG code n k st).2.1≤st.2.1+16*k∧(cvG code n k st).1.length=st.1.length+k
 | 0,st=>by unfold cvG;omega
 | k+1,st=>by
  unfold cvG
  have h:=Qo0 code a k (st.1++[(c3V code n st.2.1 st.2.2).1],(c3V code n st.2.1 st.2.2).2.1,(c3V code n st.2.1 st.2.2).2.2)
  have b:=Qtu code n st.2.1 st.2.2 a
  simp only[ai,av,aB] at h
  omega
def Qxj (code:List UInt8)(st:CSt):st.2.1≤(cvE code st).2.1∧(cvE code st).2.1≤st.2.1+8∧(cvE code st).1.length=st.1.length:=by
 unfold cvE
 have a:=(ZQ code st.2.1 st.2.2 15).2
 have b:=(ZQ code (pkA 15 st.2.1) (pkS code st.2.1 st.2.2 15) 3).2
 split
 ·split
  ·exact ⟨by dsimp only;omega,by dsimp only;omega,ax⟩
  ·exact ⟨by dsimp only;omega,by dsimp only;omega,rfl⟩
 ·omega
def Qxi (code:List UInt8)(n at_ sd:Int)(c:0≤n∧n≤8):at_≤(cvC code n at_ sd).2.1∧(cvC code n at_ sd).2.1≤at_+100∧(cvC code n at_ sd).1.length≤4:=by
 have a:=ZQ code at_ sd 5
 have b:=Qo0 code c (pkV code at_ sd 5).toNat ([],pkA 5 at_,pkS code at_ sd 5)
 have d:=Qxj code (cvG code n (pkV code at_ sd 5).toNat ([],pkA 5 at_,pkS code at_ sd 5))
 have e:=a.1.2 (by decide)
 unfold cvC
 simp only[aB] at b
 omega
def Qxk {code:List UInt8}{n k a_ sd_:Int}{l_:List BA}{z:CSt}(h:0<k)(a:z=cvG code n k.toNat (l_,a_,sd_)):
 z=cvG code n (k - 1).toNat (l_++[(c3V code n a_ sd_).1],(c3V code n a_ sd_).2.1,(c3V code n a_ sd_).2.2):=by
 rw[a,show k.toNat=(k - 1).toNat+1 by omega,cvG]
def Ql9 {code:List UInt8}{n k a_ sd_:Int}{l_:List BA}{z:CSt}(h:¬0<k)(a:z=cvG code n k.toNat (l_,a_,sd_)):z=(l_,a_,sd_):=by
 rw[a,show k.toNat=0 by omega,cvG]
section
variable {code:List UInt8}{n at_ sd k a_ sd_:Int}{l_:List BA}{x:BA}
def QtJ (b:¬0<k)(a:cvG code n (pkV code at_ sd 5).toNat ([],pkA 5 at_,pkS code at_ sd 5)=cvG code n k.toNat (l_,a_,sd_))(h:¬0<(l_.length:Int)):(l_,a_,sd_)=cvC code n at_ sd:=by
 unfold cvC
 rw[Ql9 b a,cvE,if_neg h]
def QtK (c:¬0<k)(b:cvG code n (pkV code at_ sd 5).toNat ([],pkA 5 at_,pkS code at_ sd 5)=cvG code n k.toNat (l_,a_,sd_))(h:0<(l_.length:Int))(a:¬pkV code a_ sd_ 15=0):(l_,pkA 15 a_,pkS code a_ sd_ 15)=cvC code n at_ sd:=by
 unfold cvC
 rw[Ql9 c b,cvE,if_pos h,if_neg a]
def QtL (c:¬0<k)(b:cvG code n (pkV code at_ sd 5).toNat ([],pkA 5 at_,pkS code at_ sd 5)=cvG code n k.toNat (l_,a_,sd_))(h:0<(l_.length:Int))(a:pkV code a_ sd_ 15=0)(d:l_[0]? =some x):
 (l_.set 0 (((cvL x)[(pkV code (pkA 15 a_) (pkS code a_ sd_ 15) 3).toNat]?).getD ByteArray.empty),pkA 3 (pkA 15 a_),pkS code (pkA 15 a_) (pkS code a_ sd_ 15) 3)=cvC code n at_ sd:=by
 unfold cvC
 rw[Ql9 c b,cvE,if_pos h,if_pos a]
 dsimp only
 rw[d];rfl
end
def Qrk (code:List UInt8)(at_:Int)(sd:Int)(n:Int)(u:0≤at_∧at_≤900000000)(y:0≤n∧n≤8):FC prog 229 [(false,[.ptr 0 0]),(false,[dI n])] [bx 0 86 [.dat QP code,dI at_,.val (.int .u64 sd)]] 1 (Is (lf (dS ((c3V code n at_ sd).1))) [bx 0 86 [.dat QP code,dI ((c3V code n at_ sd).2.1),.val (.int .u64 ((c3V code n at_ sd).2.2))]]):=by
 refine Ql func229 rfl rfl ntmps229 fun s o r i t m l=>w11 ?_
 refine Qy (fun g h=>∃(a:Int) (b:BA) (a_:Int) (sd_:Int),g=(n - a).toNat∧(0≤a∧a≤n)∧((b.size:Int)≤a)∧(at_≤a_∧a_≤at_+2*a)∧((c3V code n at_ sd)=c3G code (n - a).toNat (b,a_,sd_))∧h=⟨[(0,lP 0 0),(1,lI n),(4,lf (dS (⟨#[]⟩:BA))),(5,lf (dS b)),(6,lI a)],[bx 0 86 [.dat QP code,dI a_,.val (.int .u64 sd_)]]⟩) ⟨0,(⟨#[]⟩:BA),at_,sd,rfl,by omega,(cR _),by omega,(by unfold c3V;rw[Int.sub_zero]),rfl⟩ ?_ ?_
 exact wo []
 rintro g h ⟨a,b,a_,sd_,p,w,z,v,f,rfl⟩
 refine w6 ?_
 cases c:(decide (a<n))
 have d:=ab c
 refine w8 ?_
 have j:(b:BA)=((c3V code n at_ sd).1):=by
  (rw[Ql2 (by omega) f])
 exact fi_ [] o ⟨(((congrArg (fun z_=>some (Ent.box 86 [.dat QP code,dI z_,.val (.int .u64 sd_)])) (show (a_:Int)=((c3V code n at_ sd).2.1) by (rw[Ql2 (by omega) f])))).trans (congrArg (fun z_:Int=>some (Ent.box 86 [.dat QP code,dI ((c3V code n at_ sd).2.1),.val (.int .u64 z_)])) (show (sd_:Int)=((c3V code n at_ sd).2.2) by (rw[Ql2 (by omega) f])))),trivial⟩ (h0:=by rw[← j] <;> rfl)
 have d:=aa c
 refine w7 ?_
 refine lc (dBs 1 (e:= .str) Wd) ?_
 have q:=ZQ code a_ sd_ (([(⟨#[48]⟩:BA),(⟨#[49]⟩:BA),(⟨#[45]⟩:BA)]).length:Int)
 refine lc (dP 2 [] (W5 code a_ sd_ ([(⟨#[48]⟩:BA),(⟨#[49]⟩:BA),(⟨#[45]⟩:BA)]) (by omega) (by decide)) Qbd)<|lc (QX (Qa rfl) (Qa rfl) rfl (by (refine bi (cW (QiV [(⟨#[48]⟩:BA),(⟨#[49]⟩:BA),(⟨#[45]⟩:BA)] 1 (by decide+kernel) _) _) ?_;omega))) ?_
 refine w_ ?_
 refine Qc<|w5 ?_
 refine Qc<|Zb ⟨(a+1),(b++((([(⟨#[48]⟩:BA),(⟨#[49]⟩:BA),(⟨#[45]⟩:BA)])[(pkV code a_ sd_ (([(⟨#[48]⟩:BA),(⟨#[49]⟩:BA),(⟨#[45]⟩:BA)]).length:Int)).toNat]?).getD ByteArray.empty)),(pkA (([(⟨#[48]⟩:BA),(⟨#[49]⟩:BA),(⟨#[45]⟩:BA)]).length:Int) a_),(pkS code a_ sd_ (([(⟨#[48]⟩:BA),(⟨#[49]⟩:BA),(⟨#[45]⟩:BA)]).length:Int)),rfl,by omega,(by rw[aE];refine Int.le_trans (Int.ofNat_le.2 (cW (QiV [(⟨#[48]⟩:BA),(⟨#[49]⟩:BA),(⟨#[45]⟩:BA)] 1 (by decide+kernel) _) _)) ?_;omega),(by omega),(QwW (by omega) f),rfl⟩ (by omega) ?_
 exact wo []
def QnC (code:List UInt8)(at_:Int)(sd:Int)(n:Int)(F:0≤at_∧at_≤800000000)(o:0≤n∧n≤8):FC prog 153 [(false,[.ptr 0 0]),(false,[dI n])] [bx 0 86 [.dat QP code,dI at_,.val (.int .u64 sd)]] 1 (Is (lR 1) [bx 0 86 [.dat QP code,dI ((cvC code n at_ sd).2.1),.val (.int .u64 ((cvC code n at_ sd).2.2))],ar 1 9 .str ((cvC code n at_ sd).1)]):=by
 refine Ql func153 rfl rfl ntmps153 fun D l C t E v u=>w9 ?_
 have A:=ZQ code at_ sd 5
 refine lc (dP 1 [] (QF code at_ sd 5 (by omega)) Zs)<|w3 ?_
 refine AC.wk (Wk.nilS 2 5 9 .str rfl (Fresh.of rfl) (nlr rfl))<|Qy (fun r s=>∃(d:Int) (l_:List BA) (a_:Int) (sd_:Int),r=d.toNat∧(0≤d∧d≤4)∧((l_.length:Int)+d≤4)∧(∀c∈l_,c.size≤8)∧(at_≤a_∧a_+16*d≤at_+66)∧(cvG code n (pkV code at_ sd 5).toNat ([],pkA 5 at_,pkS code at_ sd 5)=cvG code n d.toNat (l_,a_,sd_))∧s=⟨[(0,lP 0 0),(1,lI n),(4,lf (.val (.slice none 0 0))),(5,lR 3),(6,lI d)],[bx 0 86 [.dat QP code,dI a_,.val (.int .u64 sd_)],ar 3 9 .str l_]⟩) ⟨pkV code at_ sd 5,([]:(Qd:Ty).Den),(pkA 5 at_),(pkS code at_ sd 5),rfl,by omega,(by simp only[aB];omega),(fun c w=>by cases w),by omega,rfl,rfl⟩ ?_ ?_
 exact wp [(3,2)] ⟨rfl,(Qg (by first|rfl|simp)),trivial⟩
 rintro r s ⟨d,l_,a_,sd_,y,H,I,q,G,b,rfl⟩
 have m:=Qtu code n a_ sd_ o
 refine w5 ?_
 cases g:(decide (0<d))
 have h:=ab g
 refine w9 ?_
 cases i:(decide (0<(l_.length:Int)))
 have j:=ab i
 refine w11 ?_
 exact fi_ [(1,3)] l ⟨(((congrArg (fun z_=>some (Ent.box 86 [.dat QP code,dI z_,.val (.int .u64 sd_)])) (show (a_:Int)=((cvC code n at_ sd).2.1) by exact congrArg (fun z:CSt=>z.2.1) (QtJ (by omega) b (by omega))))).trans (congrArg (fun z_:Int=>some (Ent.box 86 [.dat QP code,dI ((cvC code n at_ sd).2.1),.val (.int .u64 z_)])) (show (sd_:Int)=((cvC code n at_ sd).2.2) by exact congrArg (fun z:CSt=>z.2.2) (QtJ (by omega) b (by omega))))),(Qg (by exact congrArg (fun z:CSt=>z.1) (QtJ (by omega) b (by omega)))),trivial⟩
 have j:=aa i
 refine w_ ?_
 have B:=ZQ code a_ sd_ 15
 refine lgy rfl rfl (dP 4 [] (WE code a_ sd_ 15 (by omega)) Qc8)<|w2 ?_
 refine cd_ (fun _ _=> ?_) fun _ _=> ?_
 refine w6 ?_
 exact fi_ [(1,3)] l ⟨(((congrArg (fun z_=>some (Ent.box 86 [.dat QP code,dI z_,.val (.int .u64 (pkS code a_ sd_ 15))])) (show ((pkA 15 a_):Int)=((cvC code n at_ sd).2.1) by exact congrArg (fun z:CSt=>z.2.1) (QtK (by omega) b (by omega) ‹_›)))).trans (congrArg (fun z_:Int=>some (Ent.box 86 [.dat QP code,dI ((cvC code n at_ sd).2.1),.val (.int .u64 z_)])) (show ((pkS code a_ sd_ 15):Int)=((cvC code n at_ sd).2.2) by exact congrArg (fun z:CSt=>z.2.2) (QtK (by omega) b (by omega) ‹_›)))),(Qg (by exact congrArg (fun z:CSt=>z.1) (QtK (by omega) b (by omega) ‹_›))),trivial⟩
 refine w5 ?_
 obtain ⟨f,a⟩:=gx l_ 0
 have p:=q _ (ah a)
 refine w_ ?_
 refine lc (QX (Qa rfl) (Evl.str rfl) rfl (by first|omega|(simp only[ZJ];omega)))<|lc (dBs 5 (e:= .str) Wd)<|lc (dP 6 [(1,5)] (W5 code (pkA 15 a_) (pkS code a_ sd_ 15) ([(⟨#[]⟩:BA),(⟨#[120]⟩:BA),f++(⟨#[49]⟩:BA)]) (by omega) (Nat.succ_le_succ (aL _))) Qbd)<|w_ ?_
 refine lc (QO (e:= .str) (z':=(([(⟨#[]⟩:BA),(⟨#[120]⟩:BA),f++(⟨#[49]⟩:BA)])[(pkV code (pkA 15 a_) (pkS code a_ sd_ 15) (([(⟨#[]⟩:BA),(⟨#[120]⟩:BA),f++(⟨#[49]⟩:BA)]).length:Int)).toNat]?).getD ByteArray.empty) (Qa rfl) rfl a rfl (Qm rfl) rfl Wv rfl rfl)<|w6 ?_
 exact fi_ [(1,3)] l ⟨(((congrArg (fun z_=>some (Ent.box 86 [.dat QP code,dI z_,.val (.int .u64 (pkS code (pkA 15 a_) (pkS code a_ sd_ 15) (([(⟨#[]⟩:BA),(⟨#[120]⟩:BA),f++(⟨#[49]⟩:BA)]).length:Int)))])) (show ((pkA (([(⟨#[]⟩:BA),(⟨#[120]⟩:BA),f++(⟨#[49]⟩:BA)]).length:Int) (pkA 15 a_)):Int)=((cvC code n at_ sd).2.1) by exact congrArg (fun z:CSt=>z.2.1) (QtL (by omega) b (by omega) ‹_› a)))).trans (congrArg (fun z_:Int=>some (Ent.box 86 [.dat QP code,dI ((cvC code n at_ sd).2.1),.val (.int .u64 z_)])) (show ((pkS code (pkA 15 a_) (pkS code a_ sd_ 15) (([(⟨#[]⟩:BA),(⟨#[120]⟩:BA),f++(⟨#[49]⟩:BA)]).length:Int)):Int)=((cvC code n at_ sd).2.2) by exact congrArg (fun z:CSt=>z.2.2) (QtL (by omega) b (by omega) ‹_› a)))),(Qg (by exact congrArg (fun z:CSt=>z.1) (QtL (by omega) b (by omega) ‹_› a))),trivial⟩
 have h:=aa g
 refine w8 ?_
 refine lc (dP 8 [] (Qrk code a_ sd_ n (by omega) o) QmY)<|lc (dBs 9 (e:= .str) Wd)<|lc (dA 10 Ub)<|w_ ?_
 refine Qc<|w5 ?_
 exact Qc<|Zb ⟨(d - 1),(l_++([(c3V code n a_ sd_).1])),((c3V code n a_ sd_).2.1),((c3V code n a_ sd_).2.2),rfl,by omega,(by simp only[ai,av,aB];omega),(QFq q m.2.2),(by omega),(Qxk (by omega) b),rfl⟩ (by omega)<|wp [(3,10)] ⟨rfl,(Qg (by first|rfl|simp)),trivial⟩
section
variable [∀c,Decidable (SgOk c)]{c:DSg}{sig kind:Int}{w:Bool}{k:Nat}{gs:List DGt}
def Qzm:YM c false sig=nfB c sig:=if_neg dd
def QhI (h:¬SgOk c):¬(SgOk c∧Z6 c=ZB):=fun q=>h q.1
def QhJ (h:¬Z6 c=ZB):¬(SgOk c∧Z6 c=ZB):=fun q=>h q.2
def Qd5 (h:¬(SgOk c∧Z6 c=ZB)):[]=(YG c w).1∧[]=(YG c w).2∧false=decide (Yr c w):=by
 obtain ⟨a,b⟩:=QCN (w:=w) h
 rw[a];exact ⟨rfl,rfl,b⟩
def JS (d:(Qt c.1 c.1.length)[k]? =some sig)(hb:YM c w sig=false):[]=(YG c w).1∧[]=(YG c w).2∧false=decide (Yr c w):=by
 obtain ⟨a,b⟩:=QFC d hb
 rw[a];exact ⟨rfl,rfl,b⟩
def QAg (h0:SgOk c∧Z6 c=ZB)(h:GsI c w k gs)(d:(Qt c.1 c.1.length).length≤k):c.1=(YG c w).1∧gs=(YG c w).2∧true=decide (Yr c w):=by
 obtain ⟨a,b⟩:=QFD h0 h d
 rw[← a];exact ⟨rfl,rfl,b⟩
def Qu3 (a:kind=if w then 2 else 1)(h:¬kind=2):w=false:=by cases w with|false=>rfl|true=>exact absurd a h
def Qk4 (a:kind=if w then 2 else 1)(h:kind=2):w=true:=by cases w with|true=>rfl|false=>rw[a] at h;exact absurd h (by decide)
def QDF (a:kind=if w then 2 else 1)(b:¬kind=2)(f:Zn c sig Zp)(g:QgA c sig Zp=true):YM c w sig=true∧(sig,kind,mcU c sig Zp,[])=UV c w sig:=by
 have h:=Qu3 a b
 subst h
 obtain ⟨d,e⟩:=QFU f
 exact ⟨d.trans g,by rw[e,a];rfl⟩
def QDG (i:kind=if w then 2 else 1)(d:kind=2)(h:Zn c sig upT)(j:QgA c sig upT=true)(a:Zn c sig Z1)(b:QgA c sig Z1=true):YM c w sig=true∧(sig,kind,mcU c sig upT,mcU c sig Z1)=UV c w sig:=by
 have l:=Qk4 i d
 subst l
 obtain ⟨f,g⟩:=QDb h a
 have e:YM c true sig=true:=by rw[g,j,b];rfl
 exact ⟨e,by rw[← QFV e,f,d]⟩
def QuX (b:kind=if w then 2 else 1)(a:¬kind=2)(h:¬Zn c sig Zp):YM c w sig=false:=by rw[Qu3 b a];exact QDa h
def QuY (b:kind=if w then 2 else 1)(a:¬kind=2)(h:QgA c sig Zp=false):YM c w sig=false:=by
 rw[Qu3 b a,Qzm]
 unfold nfB
 exact Bool.and_eq_false_iff.2 (.inr h)
def QxD:YM c true sig=((decide (Zn c sig upT)&&decide (Zn c sig Z1))&&(QgA c sig upT&&QgA c sig Z1)):=if_pos rfl
def QuZ (b:kind=if w then 2 else 1)(a:kind=2)(h:¬Zn c sig upT):YM c w sig=false:=by rw[Qk4 b a,QxD,aj h];rfl
def Qu0 (b:kind=if w then 2 else 1)(a:kind=2)(h:QgA c sig upT=false):YM c w sig=false:=by rw[Qk4 b a,QxD,h];simp
def Qu1 (b:kind=if w then 2 else 1)(a:kind=2)(h:¬Zn c sig Z1):YM c w sig=false:=by rw[Qk4 b a,QxD,aj h];simp
def Qu2 (b:kind=if w then 2 else 1)(a:kind=2)(h:QgA c sig Z1=false):YM c w sig=false:=by rw[Qk4 b a,QxD,h];simp
def Qkx:(YG c w).1.length≤8∧(YG c w).2.length≤8:=by
 by_cases h:Yr c w
 ·rw[Ql6 h]
  refine ⟨h.1.1.sigs.2.2,?_⟩
  have:=XQ (ss:=c.1) (k:=c.1.length)
  have a:=h.1.1.sigs.2.2
  rw[aC];omega
 ·rw[Qty h];exact ⟨aL _,aL _⟩
def QFG {code:List UInt8}{at_ n A S:Int}(a:0≤n∧n≤8)(h:at_≤A∧A≤at_+900):at_≤(cvC code n A S).2.1∧(cvC code n A S).2.1≤at_+1000:=by
 have:=Qxi code n A S a
 omega
end
def JI (c:Yw)(kind:Int)(w:Bool)[∀c,Decidable (SgOk c)](h0:SgOk c∧Z6 c=ZB)(d:kind=if w then 2 else 1):FC prog 53 [(true,[.dat Qj c.1,.dat Qd c.2.1,.dat Qq c.2.2]),(false,[dI kind])] [] 0 (Is (PV.tup [(true,[.ref 0,.ref 1]),(false,[dB (decide (Yr c w))])]) [ar 0 103 QG ((YG c w).1),(1,some (.res (zrR 90 WN ((YG c w).2))))]):=by
 have M:=h0.1.sigs.2.2
 refine Ql func53 rfl rfl ntmps53 fun S j R I T L K=>w_ ?_
 refine xbx 0 ?_
 refine lc (xal 1 Qss QbQ)<|w3 ?_
 refine lc (dBs 2 (e:=QG) WO)<|w2 ?_
 refine lc (Zg 3 (Qa rfl) rfl (Evl.rep (Qa rfl)) rfl QdH K7 (by first|omega|(simp only[ai,aC,au,av,aB];omega)|(simp only[ai,aX,au,av,aB];omega)) rfl (Fresh.of rfl) (nlr rfl))<|lc (Qh V9 ⟨_,_,rfl,(Qm rfl),rfl⟩ (ao.1 rfl) rfl rfl)<|lc (xal 4 Qss QbQ)<|w11 ?_
 refine lc (dK (Wi c (by have:=h0.1.sigs.2.2;omega)).frozen K9)<|alL 28 fun _=> ?_
 refine w4 ?_
 refine AC.wk (Qo 5 (p:=4) (off:=1) 90 WN rfl rfl (Fresh.of rfl) (nlr rfl))<|AC.wk (Y6 (q:=5) rfl)<|Qy (fun G H=>∃(k:Nat) (gs:List (Int×Int×List BA×List BA)),k≤(Qt c.1 c.1.length).length∧G=(Qt c.1 c.1.length).length - k∧(GsI c w k gs)∧H=⟨[(1,lI kind),(2,lP 0 0),(4,lP 1 0),(6,lP 4 0),(7,lI (c.1.length:Int)),(28,lf (.dat Qv (Qt c.1 c.1.length))),(29,lI ((Qt c.1 c.1.length).length:Int)),(30,lI (k:Int))],[bx 0 28 [.dat Qj c.1,.dat Qd c.2.1,.dat Qq c.2.2],bx 1 32 [.val (.slice none 0 0),.val (.slice none 0 0)],ar 3 103 QG (([])++c.1),bx 4 32 [.ref 3,.ref 6],(6,some (.res (zrR 90 WN gs)))]⟩) ⟨0,([]:(QdG:Ty).Den),aL _,rfl,QF0,rfl⟩ ?_ ?_
 exact wp [(6,5)] ⟨rfl,rfl,rfl,rfl,(UD (by first|rfl|simp)),trivial⟩
 rintro G H ⟨k,gs,O,P,r,rfl⟩
 have N:=QAJ r
 have Q:=XQ (ss:=c.1) (k:=c.1.length)
 refine w4 ?_
 cases u:(decide ((k:Int)<((Qt c.1 c.1.length).length:Int)))
 have v:=ab u
 refine w9 ?_
 have J:(true:Bool)=(decide (Yr c w)):=by
  exact (QAg h0 r (by omega)).2.2
 exact fi_ [(0,3),(1,6)] j ⟨(Qg (by exact (QAg h0 r (by omega)).1)),(UD (by exact (QAg h0 r (by omega)).2.1)),trivial⟩ (h0:=by rw[← J] <;> rfl)
 have v:=aa u
 refine w5 ?_
 obtain ⟨b,a⟩:=gx (Qt c.1 c.1.length) k
 refine w7 ?_
 refine lc (Qh Qz5 ⟨_,_,rfl,(Qm rfl),⟨_,_,rfl,(Qm rfl),rfl⟩⟩ (ao.1 rfl) rfl rfl)<|lc (xal 7 WN Qhd)<|w5 ?_
 refine lc (dK (JY c b) Qmn)<|w3 ?_
 refine lc (xal 8 QcG Ke)<|w8 ?_
 cases f:(decide (kind=2))
 have l:=ab f
 refine w8 ?_
 refine lc (dK (XG (c.1.length:Int) ((QD c b Zp).1) ((QD c b Zp).2)) Qbc)<|w11 ?_
 cases g:(decide (Zn c b Zp))
 have m:=ab g
 refine w6 ?_
 refine lc (Qh V9 rfl (ao.1 rfl) rfl rfl)<|w3 ?_
 refine AC.wk (Qo 9 (p:=1) (off:=0) 103 QG rfl rfl (Fresh.of rfl) (nlr rfl))<|AC.wk (Qo 10 (p:=1) (off:=1) 90 WN rfl rfl (Fresh.of rfl) (nlr rfl))<|AC.wk (Y6 (q:=10) rfl)<|w_ ?_
 have x:(false:Bool)=(decide (Yr c w)):=by
  exact (JS a (QuX d ‹_› ‹_›)).2.2
 exact fi_ [(0,9),(1,10)] j ⟨(Qg (by exact (JS a (QuX d ‹_› ‹_›)).1)),(UD (by exact (JS a (QuX d ‹_› ‹_›)).2.1)),trivial⟩ (h0:=by rw[← x] <;> rfl)
 have m:=aa g
 refine w4 ?_
 cases D:(mcB (c.1.length:Int) ((QD c b Zp).1) ((QD c b Zp).2))
 refine w2 ?_
 refine lc (Qh V9 rfl (ao.1 rfl) rfl rfl)<|w3 ?_
 refine AC.wk (Qo 11 (p:=1) (off:=0) 103 QG rfl rfl (Fresh.of rfl) (nlr rfl))<|AC.wk (Qo 12 (p:=1) (off:=1) 90 WN rfl rfl (Fresh.of rfl) (nlr rfl))<|AC.wk (Y6 (q:=12) rfl)<|w_ ?_
 have y:(false:Bool)=(decide (Yr c w)):=by
  exact (JS a (QuY d ‹_› ‹_›)).2.2
 exact fi_ [(0,11),(1,12)] j ⟨(Qg (by exact (JS a (QuY d ‹_› ‹_›)).1)),(UD (by exact (JS a (QuY d ‹_› ‹_›)).2.1)),trivial⟩ (h0:=by rw[← y] <;> rfl)
 refine w12 ?_
 have s:(decide (kind=2))=false:=f
 try rw[s]
 refine w2 ?_
 refine AC.wk (UP (p:=7) [dI b,dI kind,.dat Qd (mcV (c.1.length:Int) ((QD c b Zp).1) ((QD c b Zp).2)),.dat Qd ([])] rfl ⟨_,_,rfl,.inl rfl,⟨_,_,rfl,.inl rfl,⟨_,_,rfl,.inl rfl,⟨_,_,rfl,.inr ⟨_,_,rfl,rfl⟩,rfl⟩⟩⟩⟩)<|w4 ?_
 refine lc (QbS 13 (e:=WN) [(b,kind,mcV (c.1.length:Int) ((QD c b Zp).1) ((QD c b Zp).2),([]:(Qd:Ty).Den))] Qj0 Qv6 Qhd rfl ⟨_,_,rfl,(Qm rfl),rfl⟩ rfl (by decide) rfl (Fresh.of rfl) (nlr rfl))<|lc (XM 14 (Qa rfl) rfl (Qa rfl) rfl (ea _) Qj0 QtV (by first|omega|(simp only[ai,aC,au,av,aB];omega)|(simp only[ai,aX,au,av,aB];omega)) rfl (Fresh.of rfl) (nlr rfl))<|w2 ?_
 refine Qc<|w4 ?_
 exact Qc<|Zb ⟨k+1,(gs++([(b,kind,mcV (c.1.length:Int) ((QD c b Zp).1) ((QD c b Zp).2),([]:(Qd:Ty).Den))])),by omega,rfl,(by exact QDh r a (QDF d ‹_› ‹_› ‹_›).1 (QDF d ‹_› ‹_› ‹_›).2),rfl⟩ (by omega)<|wp [(6,14)] ⟨rfl,rfl,rfl,rfl,(UD (by first|rfl|simp)),trivial⟩
 have l:=aa f
 refine w4 ?_
 refine lc (dK (KA c b) Qmo)<|w12 ?_
 refine lc (dK (XG (c.1.length:Int) ((QD c b upT).1) ((QD c b upT).2)) Qbc)<|w11 ?_
 cases h:(decide (Zn c b upT))
 have n:=ab h
 refine w6 ?_
 refine lc (Qh V9 rfl (ao.1 rfl) rfl rfl)<|w3 ?_
 refine AC.wk (Qo 15 (p:=1) (off:=0) 103 QG rfl rfl (Fresh.of rfl) (nlr rfl))<|AC.wk (Qo 16 (p:=1) (off:=1) 90 WN rfl rfl (Fresh.of rfl) (nlr rfl))<|AC.wk (Y6 (q:=16) rfl)<|w_ ?_
 have z:(false:Bool)=(decide (Yr c w)):=by
  exact (JS a (QuZ d ‹_› ‹_›)).2.2
 exact fi_ [(0,15),(1,16)] j ⟨(Qg (by exact (JS a (QuZ d ‹_› ‹_›)).1)),(UD (by exact (JS a (QuZ d ‹_› ‹_›)).2.1)),trivial⟩ (h0:=by rw[← z] <;> rfl)
 have n:=aa h
 refine w4 ?_
 cases E:(mcB (c.1.length:Int) ((QD c b upT).1) ((QD c b upT).2))
 refine w2 ?_
 refine lc (Qh V9 rfl (ao.1 rfl) rfl rfl)<|w3 ?_
 refine AC.wk (Qo 17 (p:=1) (off:=0) 103 QG rfl rfl (Fresh.of rfl) (nlr rfl))<|AC.wk (Qo 18 (p:=1) (off:=1) 90 WN rfl rfl (Fresh.of rfl) (nlr rfl))<|AC.wk (Y6 (q:=18) rfl)<|w_ ?_
 have A:(false:Bool)=(decide (Yr c w)):=by
  exact (JS a (Qu0 d ‹_› ‹_›)).2.2
 exact fi_ [(0,17),(1,18)] j ⟨(Qg (by exact (JS a (Qu0 d ‹_› ‹_›)).1)),(UD (by exact (JS a (Qu0 d ‹_› ‹_›)).2.1)),trivial⟩ (h0:=by rw[← A] <;> rfl)
 refine w12 ?_
 have t:(decide (kind=2))=true:=f
 try rw[t]
 refine w4 ?_
 refine lc (dK (UI c b) Qmp)<|w3 ?_
 refine lc (xal 19 QcG Ke)<|w9 ?_
 refine lc (dK (XG (c.1.length:Int) ((QD c b Z1).1) ((QD c b Z1).2)) Qbc)<|w11 ?_
 cases i:(decide (Zn c b Z1))
 have o:=ab i
 refine w6 ?_
 refine lc (Qh V9 rfl (ao.1 rfl) rfl rfl)<|w3 ?_
 refine AC.wk (Qo 20 (p:=1) (off:=0) 103 QG rfl rfl (Fresh.of rfl) (nlr rfl))<|AC.wk (Qo 21 (p:=1) (off:=1) 90 WN rfl rfl (Fresh.of rfl) (nlr rfl))<|AC.wk (Y6 (q:=21) rfl)<|w_ ?_
 have B:(false:Bool)=(decide (Yr c w)):=by
  exact (JS a (Qu1 d ‹_› ‹_›)).2.2
 exact fi_ [(0,20),(1,21)] j ⟨(Qg (by exact (JS a (Qu1 d ‹_› ‹_›)).1)),(UD (by exact (JS a (Qu1 d ‹_› ‹_›)).2.1)),trivial⟩ (h0:=by rw[← B] <;> rfl)
 have o:=aa i
 refine w4 ?_
 cases F:(mcB (c.1.length:Int) ((QD c b Z1).1) ((QD c b Z1).2))
 refine w2 ?_
 refine lc (Qh V9 rfl (ao.1 rfl) rfl rfl)<|w3 ?_
 refine AC.wk (Qo 22 (p:=1) (off:=0) 103 QG rfl rfl (Fresh.of rfl) (nlr rfl))<|AC.wk (Qo 23 (p:=1) (off:=1) 90 WN rfl rfl (Fresh.of rfl) (nlr rfl))<|AC.wk (Y6 (q:=23) rfl)<|w_ ?_
 have C:(false:Bool)=(decide (Yr c w)):=by
  exact (JS a (Qu2 d ‹_› ‹_›)).2.2
 exact fi_ [(0,22),(1,23)] j ⟨(Qg (by exact (JS a (Qu2 d ‹_› ‹_›)).1)),(UD (by exact (JS a (Qu2 d ‹_› ‹_›)).2.1)),trivial⟩ (h0:=by rw[← C] <;> rfl)
 refine w11 ?_
 refine lc (QbS 24 (e:=WN) [(b,kind,mcV (c.1.length:Int) ((QD c b upT).1) ((QD c b upT).2),mcV (c.1.length:Int) ((QD c b Z1).1) ((QD c b Z1).2))] Qj0 Qv6 Qhd rfl ⟨_,_,rfl,(Qm rfl),rfl⟩ rfl (by decide) rfl (Fresh.of rfl) (nlr rfl))<|lc (XM 25 (Qa rfl) rfl (Qa rfl) rfl (ea _) Qj0 QtV (by first|omega|(simp only[ai,aC,au,av,aB];omega)|(simp only[ai,aX,au,av,aB];omega)) rfl (Fresh.of rfl) (nlr rfl))<|w2 ?_
 refine Qc<|w4 ?_
 exact Qc<|Zb ⟨k+1,(gs++([(b,kind,mcV (c.1.length:Int) ((QD c b upT).1) ((QD c b upT).2),mcV (c.1.length:Int) ((QD c b Z1).1) ((QD c b Z1).2))])),by omega,rfl,(by exact QDh r a (QDG d ‹_› ‹_› ‹_› ‹_› ‹_›).1 (QDG d ‹_› ‹_› ‹_› ‹_› ‹_›).2),rfl⟩ (by omega)<|wp [(6,25)] ⟨rfl,rfl,rfl,rfl,(UD (by first|rfl|simp)),trivial⟩
def XF (c:Yw)[∀c,Decidable (SgOk c)]:FC prog 9 [(true,[.dat Qj c.1,.dat Qd c.2.1,.dat Qq c.2.2])] [] 0 (Is (PV.tup [(true,[.ref 0,.ref 1]),(false,[dB (decide (Yr c false))])]) [ar 0 103 QG ((YG c false).1),(1,some (.res (zrR 90 WN ((YG c false).2))))]):=by
 refine Ql func9 rfl rfl ntmps9 fun l d j e m i h=>w_ ?_
 refine xbx 0 ?_
 refine lc (xal 1 Qss QbQ)<|w5 ?_
 refine lc (dK (YC c) W2)<|w2 ?_
 cases a:(decide (SgOk c))
 have b:=ab a
 refine w7 ?_
 refine lc (Qh V9 rfl (ao.1 rfl) rfl rfl)<|w3 ?_
 refine AC.wk (Qo 2 (p:=1) (off:=0) 103 QG rfl rfl (Fresh.of rfl) (nlr rfl))<|AC.wk (Qo 3 (p:=1) (off:=1) 90 WN rfl rfl (Fresh.of rfl) (nlr rfl))<|AC.wk (Y6 (q:=3) rfl)<|w_ ?_
 have f:(false:Bool)=(decide (Yr c false)):=by
  exact (Qd5 (QhI ‹_›)).2.2
 exact fi_ [(0,2),(1,3)] d ⟨(Qg (by exact (Qd5 (QhI ‹_›)).1)),(UD (by exact (Qd5 (QhI ‹_›)).2.1)),trivial⟩ (h0:=by rw[← f] <;> rfl)
 have b:=aa a
 refine w_ ?_
 refine lgy rfl rfl (dK (Xl c (by assumption:SgOk c).w) V4)<|w3 ?_
 refine cn_ (fun _ _=> ?_) fun _ _=> ?_
 refine w3 ?_
 refine lc (dG 4 (JI c 1 false ⟨by assumption,by assumption⟩ rfl) QhO)<|w6 ?_
 exact fi_ [(0,4),(1,5)] d ⟨rfl,rfl,trivial⟩
 refine w_ ?_
 refine lc (Qh V9 rfl (ao.1 rfl) rfl rfl)<|w3 ?_
 refine AC.wk (Qo 6 (p:=1) (off:=0) 103 QG rfl rfl (Fresh.of rfl) (nlr rfl))<|AC.wk (Qo 7 (p:=1) (off:=1) 90 WN rfl rfl (Fresh.of rfl) (nlr rfl))<|AC.wk (Y6 (q:=7) rfl)<|w_ ?_
 have g:(false:Bool)=(decide (Yr c false)):=by
  exact (Qd5 (QhJ ‹_›)).2.2
 exact fi_ [(0,6),(1,7)] d ⟨(Qg (by exact (Qd5 (QhJ ‹_›)).1)),(UD (by exact (Qd5 (QhJ ‹_›)).2.1)),trivial⟩ (h0:=by rw[← g] <;> rfl)
def VU (c:Yw)[∀c,Decidable (SgOk c)]:FC prog 11 [(true,[.dat Qj c.1,.dat Qd c.2.1,.dat Qq c.2.2])] [] 0 (Is (PV.tup [(true,[.ref 0,.ref 1]),(false,[dB (decide (Yr c true))])]) [ar 0 103 QG ((YG c true).1),(1,some (.res (zrR 90 WN ((YG c true).2))))]):=by
 refine Ql func11 rfl rfl ntmps11 fun l d j e m i h=>w_ ?_
 refine xbx 0 ?_
 refine lc (xal 1 Qss QbQ)<|w5 ?_
 refine lc (dK (YC c) W2)<|w2 ?_
 cases a:(decide (SgOk c))
 have b:=ab a
 refine w7 ?_
 refine lc (Qh V9 rfl (ao.1 rfl) rfl rfl)<|w3 ?_
 refine AC.wk (Qo 2 (p:=1) (off:=0) 103 QG rfl rfl (Fresh.of rfl) (nlr rfl))<|AC.wk (Qo 3 (p:=1) (off:=1) 90 WN rfl rfl (Fresh.of rfl) (nlr rfl))<|AC.wk (Y6 (q:=3) rfl)<|w_ ?_
 have f:(false:Bool)=(decide (Yr c true)):=by
  exact (Qd5 (QhI ‹_›)).2.2
 exact fi_ [(0,2),(1,3)] d ⟨(Qg (by exact (Qd5 (QhI ‹_›)).1)),(UD (by exact (Qd5 (QhI ‹_›)).2.1)),trivial⟩ (h0:=by rw[← f] <;> rfl)
 have b:=aa a
 refine w_ ?_
 refine lgy rfl rfl (dK (Xl c (by assumption:SgOk c).w) V4)<|w3 ?_
 refine cn_ (fun _ _=> ?_) fun _ _=> ?_
 refine w3 ?_
 refine lc (dG 4 (JI c 2 true ⟨by assumption,by assumption⟩ rfl) QhO)<|w6 ?_
 exact fi_ [(0,4),(1,5)] d ⟨rfl,rfl,trivial⟩
 refine w_ ?_
 refine lc (Qh V9 rfl (ao.1 rfl) rfl rfl)<|w3 ?_
 refine AC.wk (Qo 6 (p:=1) (off:=0) 103 QG rfl rfl (Fresh.of rfl) (nlr rfl))<|AC.wk (Qo 7 (p:=1) (off:=1) 90 WN rfl rfl (Fresh.of rfl) (nlr rfl))<|AC.wk (Y6 (q:=7) rfl)<|w_ ?_
 have g:(false:Bool)=(decide (Yr c true)):=by
  exact (Qd5 (QhJ ‹_›)).2.2
 exact fi_ [(0,6),(1,7)] d ⟨(Qg (by exact (Qd5 (QhJ ‹_›)).1)),(UD (by exact (Qd5 (QhJ ‹_›)).2.1)),trivial⟩ (h0:=by rw[← g] <;> rfl)
end Go.Proofs.YtjfpbcmfbnnooaaGreat
