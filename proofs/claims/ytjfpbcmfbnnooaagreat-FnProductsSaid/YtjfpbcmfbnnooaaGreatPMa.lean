import Derived.Test.YtjfpbcmfbnnooaaGreatPHe
set_option linter.all false
namespace Go.Proofs.YtjfpbcmfbnnooaaGreat
open Go.RowKit Tryz
set_option maxRecDepth 100000
set_option maxHeartbeats 4000000
abbrev DPn:=Int×Bool
abbrev DWr:=BA×Int×List DPn×List BA
abbrev DNl:=List Qs×List DWr
def Hg (W:Int)(l:List DPn):Prop:=∀p∈l,0≤p.1∧p.1≤W - 1
instance (W:Int) (l:List DPn):Decidable (Hg W l):=inferInstanceAs (Decidable (∀p∈l,_))
abbrev PnN (x:DWr):Int:=(x.2.2.1.length:Int)
def QaA (k:Int)(x:DWr):Prop:=(x.2.1=1∧PnN x=0)∨((x.2.1=2∨x.2.1=3)∧1≤PnN x∧PnN x≤8)∨(x.2.1=4∧PnN x=2)∨(x.2.1=5∧(PnN x=0∨(PnN x=1∧x.2.2.1[0]? =some (k,false))))
def Qqv (n:Int)(x:DWr):Prop:=(x.2.1=5→ZZ n x.2.2.2)∧(¬x.2.1=5→(x.2.2.2.length:Int)=0)
def IsW (n:DNl)(k:Int)(x:DWr):Prop:=Qqv (n.1.length:Int) x∧Hg (n.2.length:Int) x.2.2.1∧QaA k x
def Hf (n:DNl)(k:Int):Prop:=∀x,n.2[k.toNat]? =some x→IsW n k x
def QCo (n:DNl)(k:Nat)(x:DWr):Prop:=(k<n.1.length→∀g,n.1[k]? =some g→x.1=g.1∧(x.2.1=1↔g.2=1))∧(n.1.length≤k→(x.2.1=2∨x.2.1=3)∧Hg (k:Int) x.2.2.1)
def Km (n:DNl)(k:Nat)(x:DWr):Prop:=(IsW n (k:Int) x∧YP x.1∧∀j y,j<k→n.2[j]? =some y→¬y.1=x.1)∧QCo n k x
def QV (n:DNl):Prop:=(Z4 n.1∧(n.1.length:Int)≤(n.2.length:Int)∧(n.2.length:Int)≤24)∧∀k x,n.2[k]? =some x→Km n k x
def PsW (n:DNl)(k:Int)(p:DPn):Prop:=(0≤p.1∧p.1≤(n.2.length:Int) - 1)∧¬((n.1.length:Int)≤k∧k≤p.1)
def KdS (k:Int)(x:DWr):Prop:=(x.2.1=1→PnN x=0)∧(x.2.1=4→PnN x=2)∧(x.2.1=5→PnN x=0∨(PnN x=1∧x.2.2.1[0]? =some (k,false)))∧(¬x.2.1=1→¬x.2.1=4→¬x.2.1=5→1≤PnN x∧PnN x≤8)
def Kk (n:DNl)(k:Int)(x:DWr):Prop:=(∀p∈x.2.2.1,PsW n k p)∧KdS k x
def QaB (n:DNl)(k:Int)(x:DWr):Prop:=((1≤x.2.1∧x.2.1≤5)∧(¬k<(n.1.length:Int)→x.2.1=2∨x.2.1=3))∧(k<(n.1.length:Int)→∀g,n.1[k.toNat]? =some g→x.1=g.1∧(x.2.1=1↔g.2=1))∧Qqv (n.1.length:Int) x∧YP x.1∧Kk n k x
def QnK {P Q:Prop}[Decidable P][Decidable Q](h:P↔Q):decide Q=decide P:=bu.2 h.symm
section
variable {n:DNl}{k:Nat}{i:Int}{x y:DWr}{g:Qs}{p:DPn}
def iwk (h:n.2[i.toNat]? =some x):Hf n i↔IsW n i x:=⟨fun q=>q x h,fun q y a=>by rw[h] at a;cases a;exact q⟩
theorem Qwg (f:n.2[k]? =some x):Km n k x↔QaB n (k:Int) x∧∀j y,j<k→n.2[j]? =some y→¬y.1=x.1:=by
 have a:(Hg (n.2.length:Int) x.2.2.1∧(n.1.length≤k→Hg (k:Int) x.2.2.1))↔∀p∈x.2.2.1,PsW n (k:Int) p:=by
  constructor
  ·rintro ⟨b,c⟩ p a
   refine ⟨b p a,fun h=> ?_⟩
   have:=(c (by omega) p a).2
   omega
  ·intro h
   refine ⟨fun p a=>(h p a).1,fun e p a=>⟨(h p a).1.1,?_⟩⟩
   have:=(h p a).2
   omega
 have d:QaA (k:Int) x↔KdS (k:Int) x∧(1≤x.2.1∧x.2.1≤5):=by
  unfold QaA KdS
  grind
 unfold Km IsW QCo QaB Kk
 rw[bW]
 constructor
 ·grind
 ·grind
def QaX (a:n.2[k]? =some x)(h:¬Km n k x):¬QV n:=fun q=>h (q.2 k x a)
theorem QeS (a:∀j,j<k→∀x,n.2[j]? =some x→Km n j x)(c:n.2[k]? =some x)(h:Km n k x):∀j,j<k+1→∀x,n.2[j]? =some x→Km n j x:=fun j b y d=>by
 grind
def Qu5 [Decidable (QV n)](b:Z4 n.1)(c:(n.1.length:Int)≤(n.2.length:Int)∧(n.2.length:Int)≤24)(d:∀j,j<k→∀x,n.2[j]? =some x→Km n j x)(e:n.2.length≤k):true=decide (QV n):=
 (ay ⟨⟨b,c⟩,fun j x a=>d j (ba (ae.1 a).1 e) x a⟩).symm
def QDS (h:¬Z4 n.1):¬QV n:=fun q=>h q.1.1
def QBb (h:¬((n.1.length:Int)≤(n.2.length:Int)∧(n.2.length:Int)≤24)):¬QV n:=fun q=>h q.1.2
def QBp {W:Int}{l:List DPn}:(!(l.any fun p=> !decide (0≤p.1∧p.1≤W - 1)))=decide (Hg W l):=by
 cases h:l.any fun p=> !decide (0≤p.1∧p.1≤W - 1) with
 | false=>
  rw[bV] at h
  exact (ay fun p a=>by simpa using h p a).symm
 | true=>
  obtain ⟨p,a,b⟩:=bG.1 h
  exact (aj fun q=>by have:=q p a;simp[this] at b).symm
variable [Decidable (Hf n i)]
def QuA (a:n.2[i.toNat]? =some x)(h:¬IsW n i x):false=decide (Hf n i):=(aj fun q=>h ((iwk a).1 q)).symm
def QF2 (a:¬x.2.1=5)(b:0<(x.2.2.2.length:Int)):¬IsW n i x:=fun q=>by have:=q.1.2 a;omega
def QDq (h:¬Hg (n.2.length:Int) x.2.2.1):¬IsW n i x:=fun q=>h q.2.1
def QF6 (a:x.2.1=5)(h:¬ZZ (n.1.length:Int) x.2.2.2):¬IsW n i x:=fun q=>h (q.1.1 a)
def QF4 (h:¬QaA i x):¬IsW n i x:=fun q=>h q.2.2
def QxO (c:n.2[i.toNat]? =some x)(a:¬x.2.1=5)(d:¬0<(x.2.2.2.length:Int))(b:Hg (n.2.length:Int) x.2.2.1):Hf n i↔QaA i x:=(iwk c).trans ⟨fun q=>q.2.2,fun q=>⟨⟨fun e=>absurd e a,fun _=>by omega⟩,b,q⟩⟩
def QuB (d:n.2[i.toNat]? =some x)(a:x.2.1=5)(c:Hg (n.2.length:Int) x.2.2.1)(b:ZZ (n.1.length:Int) x.2.2.2):Hf n i↔QaA i x:=(iwk d).trans ⟨fun q=>q.2.2,fun q=>⟨⟨fun _=>b,fun e=>absurd a e⟩,c,q⟩⟩
def QF7 (h:x.2.1=1):QaA i x↔PnN x=0:=by unfold QaA;omega
def QDr (h:x.2.1=2∨x.2.1=3):QaA i x↔1≤PnN x∧PnN x≤8:=by unfold QaA;omega
def QDs (h:x.2.1=4):QaA i x↔PnN x=2:=by unfold QaA;omega
theorem QAP (h:x.2.1=5):QaA i x↔PnN x=0∨(PnN x=1∧x.2.2.1[0]? =some (i,false)):=by
 unfold QaA
 grind
def QF8 (a:¬x.2.1=1)(b:¬x.2.1=2)(c:¬x.2.1=3)(d:¬x.2.1=4)(e:¬x.2.1=5):¬QaA i x:=fun q=>by
 rcases q with ⟨h,_⟩|⟨h,_⟩|⟨h,_⟩|⟨h,_⟩ <;> omega
theorem QF1 (h:Hf n i↔PnN x=0∨(PnN x=1∧x.2.2.1[0]? =some (i,false)))(h0:¬PnN x=0)(b:PnN x=1)(a:x.2.2.1[0]? =some p):Ty.beq Q0 p (i,false)=decide (Hf n i):=by
 rw[cC,Ty.beq_iff,bI,h,a]
 grind
def QF5 (h:Hf n i↔PnN x=0∨(PnN x=1∧x.2.2.1[0]? =some (i,false)))(h0:PnN x=0):true=decide (Hf n i):=(ay (h.2 (.inl h0))).symm
theorem QF3 (h:Hf n i↔PnN x=0∨(PnN x=1∧x.2.2.1[0]? =some (i,false)))(h0:¬PnN x=0)(a:¬PnN x=1):false=decide (Hf n i):=by grind
end
def Qcd (p:Int×Bool)(n:Int)(m: -100≤n∧n≤100000):FC prog 249 [(true,[dI p.1,dB p.2]),(false,[.ptr 0 0])] [bx 0 3 [dI n]] 1 (Is (lB (!decide (0≤p.1∧p.1≤n - 1))) [bx 0 3 [dI n]]):=by
 refine Ql func249 rfl rfl ntmps249 fun h e f a j d c=>w_ ?_
 refine xbx 1 ?_
 refine w7 ?_
 refine lc (dK (QE p.1 0 (n - 1)) Za)<|w4 ?_
 have b:(!(decide (0≤p.1∧p.1≤(n - 1))):Bool)=(!decide (0≤p.1∧p.1≤n - 1)):=by
  rfl
 exact fi_ [] e ⟨rfl,trivial⟩ (h0:=by rw[b] <;> rfl)
def Hq (l:Qmb)(n:Int)(t: -100≤n∧n≤100000):FC prog 295 [(false,[.dat XY l]),(false,[.clo 249 [0]])] [bx 0 3 [dI n]] 1 (Is (lI (Zj (fun a:DPn=> !decide (0≤a.1∧a.1≤n - 1)) l)) [bx 0 3 [dI n]]):=by
 refine Ql func295 rfl rfl ntmps295 fun v h u j w r q=>w6 ?_
 refine alL 6 fun _=> ?_
 refine w4 ?_
 refine lpK l.length (fun k=>NoneTo (fun a:DPn=> !decide (0≤a.1∧a.1≤n - 1)) l k) (fun k=>⟨[(0,lf (.dat XY l)),(1,lf (.clo 249 [0])),(7,lI (l.length:Int)),(8,lI (k:Int))],[bx 0 3 [dI n]]⟩) (NoneTo.zero) ?_ fun k _ b=> ?_
 exact wo []
 refine w4 ?_
 cases c:(decide ((k:Int)<(l.length:Int)))
 have d:=ab c
 refine w7 ?_
 have m:((-1):Int)=(Zj (fun a:DPn=> !decide (0≤a.1∧a.1≤n - 1)) l):=by
  first|exact (b.no (by omega)).symm
 exact fi_ [] h ⟨rfl,trivial⟩ (h0:=by rw[← m] <;> rfl)
 have d:=aa c
 refine w12 ?_
 obtain ⟨f,e⟩:=gx l k
 refine w2 ?_
 refine lc (Y3 (args0:=[(true,[dI f.1,dB f.2])]) (caps:=[0]) 1 [(0,0)] (Qcd f n t) Qnc rfl (Qa rfl) rfl rfl ⟨_,_,rfl,(Qm rfl),rfl⟩ ⟨rfl,trivial⟩ rfl ⟨trivial,trivial⟩ (nlr rfl))<|w_ ?_
 cases s:(!decide (0≤f.1∧f.1≤n - 1))
 refine w6 ?_
 exact Qc<|lK_ (b.step e ‹_›)<|wo []
 refine w6 ?_
 have o:((k:Int):Int)=(Zj (fun a:DPn=> !decide (0≤a.1∧a.1≤n - 1)) l):=by
  exact (b.at e ‹_›).symm
 exact fi_ [] h ⟨rfl,trivial⟩ (h0:=by rw[o] <;> rfl)
def Kq (l:Qmb)(n:Int)(o: -100≤n∧n≤100000):FC prog 248 [(false,[.dat XY l]),(false,[.clo 249 [0]])] [bx 0 3 [dI n]] 1 (Is (lB (l.any (fun a:DPn=> !decide (0≤a.1∧a.1≤n - 1)))) [bx 0 3 [dI n]]):=by
 refine Ql func248 rfl rfl ntmps248 fun j f h b m e d=>w6 ?_
 refine lc (dP 1 [] (Hq l n (by omega)) Qbn)<|w4 ?_
 have c:(decide (0≤(Zj (fun a:DPn=> !decide (0≤a.1∧a.1≤n - 1)) l)):Bool)=(l.any (fun a:DPn=> !decide (0≤a.1∧a.1≤n - 1))):=by
  exact WI _ _
 exact fi_ [] f ⟨rfl,trivial⟩ (h0:=by rw[c] <;> rfl)
def Wf (l:Qmb)(n:Int)(j: -100≤n∧n≤100000):FC prog 173 [(false,[.dat XY l]),(false,[dI n])] [] 0 (QJ (lB (decide (Hg n l)))):=by
 refine Ql func173 rfl rfl ntmps173 fun f d e a h c b=>w_ ?_
 refine xbx 0 ?_
 refine w4 ?_
 refine lc (Ys ⟨_,_,rfl,(Qa rfl),rfl,rfl⟩ rfl)<|lc (dP 1 [] (Kq l n (by omega)) Qbk)<|w4 ?_
 exact fqB d<|QBp
def Qdf (x:QtQ)(s:BA):FC prog 247 [(true,[dS x.1,dI x.2.1,.dat XY x.2.2.1,.dat Qd x.2.2.2]),(false,[.ptr 0 0])] [bx 0 9 [dS s]] 1 (Is (lB (decide (x.1=s))) [bx 0 9 [dS s]]):=by
 refine Ql func247 rfl rfl ntmps247 fun f d e a h c b=>w_ ?_
 refine xbx 1 ?_
 refine w10 ?_
 exact fi_ [] d ⟨rfl,trivial⟩
def Hu (l:Qzi)(s:BA):FC prog 246 [(false,[.dat Zk l]),(false,[.clo 247 [0]])] [bx 0 9 [dS s]] 1 (Is (lI (Zj (fun b:DWr=>decide (b.1=s)) l)) [bx 0 9 [dS s]]):=by
 refine Ql func246 rfl rfl ntmps246 fun v h u j w r q=>w6 ?_
 refine alL 6 fun _=> ?_
 refine w4 ?_
 refine lpK l.length (fun k=>NoneTo (fun b:DWr=>decide (b.1=s)) l k) (fun k=>⟨[(0,lf (.dat Zk l)),(1,lf (.clo 247 [0])),(7,lI (l.length:Int)),(8,lI (k:Int))],[bx 0 9 [dS s]]⟩) (NoneTo.zero) ?_ fun k _ a=> ?_
 exact wo []
 refine w4 ?_
 cases d:(decide ((k:Int)<(l.length:Int)))
 have e:=ab d
 refine w7 ?_
 have m:((-1):Int)=(Zj (fun b:DWr=>decide (b.1=s)) l):=by
  first|exact (a.no (by omega)).symm
 exact fi_ [] h ⟨rfl,trivial⟩ (h0:=by rw[← m] <;> rfl)
 have e:=aa d
 refine w12 ?_
 obtain ⟨c,f⟩:=gx l k
 refine w2 ?_
 refine lc (Y3 (args0:=[(true,[dS c.1,dI c.2.1,.dat XY c.2.2.1,.dat Qd c.2.2.2])]) (caps:=[0]) 1 [(0,0)] (Qdf c s) Qnb rfl (Qa rfl) rfl rfl ⟨_,_,rfl,(Qm rfl),rfl⟩ ⟨rfl,trivial⟩ rfl ⟨trivial,trivial⟩ (nlr rfl))<|w_ ?_
 cases t:(decide (c.1=s))
 refine w6 ?_
 exact Qc<|lK_ (a.step f ‹_›)<|wo []
 refine w6 ?_
 have o:((k:Int):Int)=(Zj (fun b:DWr=>decide (b.1=s)) l):=by
  exact (a.at f ‹_›).symm
 exact fi_ [] h ⟨rfl,trivial⟩ (h0:=by rw[o] <;> rfl)
def Qgb (l:Qzi)(s:BA):FC prog 172 [(false,[.dat Zk l]),(false,[dS s])] [] 0 (QJ (lI (Zj (fun e:DWr=>decide (e.1=s)) l))):=by
 refine Ql func172 rfl rfl ntmps172 fun h d f a j c b=>w_ ?_
 refine xbx 0 ?_
 refine w4 ?_
 refine lc (Ys ⟨_,_,rfl,(Qa rfl),rfl,rfl⟩ rfl)<|lc (dP 1 [] (Hu l s) Qna)<|w3 ?_
 exact fe_ d
def Ui (n:Ua)(i:Int)[∀n i,Decidable (Hf n i)](hi:0≤i∧i<(n.2.length:Int))(S:n.2.length≤1000):FC prog 171 [(true,[.dat Qj n.1,.dat Zk n.2]),(false,[dI i])] [] 0 (QJ (lB (decide (Hf n i)))):=by
 refine Ql func171 rfl rfl ntmps171 fun Q d P M R O N=>acI 1 fun _=>w_ ?_
 refine xbx 0 ?_
 refine w6 ?_
 obtain ⟨b,K⟩:=gx n.2 ((i).toNat)
 have a:=K
 refine w2 ?_
 refine lc (xal 1 Zm Xa)<|w8 ?_
 cases c:(!decide (b.2.1=5))
 have E:(b.2.1=5):=QB c
 refine w11 ?_
 refine lgy rfl rfl (dK (Wf b.2.2.1 (n.2.length:Int) (by omega)) Ja)<|w3 ?_
 cases F:(decide (Hg (n.2.length:Int) b.2.2.1))
 have G:=ab F
 refine w5 ?_
 refine fqB d ?_
 exact QuA a (QDq ‹_›)
 have G:=aa F
 refine w12 ?_
 have I:(decide (b.2.1=1))=false:=aj fun r=>absurd ((aa (XV c)).symm.trans r) (by decide)
 try rw[I]
 refine w6 ?_
 have J:(decide (b.2.1=2))=false:=aj fun r=>absurd ((aa (XV c)).symm.trans r) (by decide)
 try rw[J]
 refine w5 ?_
 have A:(decide (b.2.1=3))=false:=aj fun r=>absurd ((aa (XV c)).symm.trans r) (by decide)
 try rw[A]
 refine w5 ?_
 have B:(decide (b.2.1=4))=false:=aj fun r=>absurd ((aa (XV c)).symm.trans r) (by decide)
 try rw[B]
 refine w5 ?_
 have C:(decide (b.2.1=5))=true:=XV c
 try rw[C]
 refine w7 ?_
 refine lc (dK (Hv (n.1.length:Int) b.2.2.2) Qq4)<|w_ ?_
 cases e:(decide (ZZ (n.1.length:Int) b.2.2.2))
 have s:=ab e
 refine w5 ?_
 iterate 13 refine Qf rfl rfl rfl ?_ rfl
 refine w5 ?_
 refine fqB d ?_
 exact QuA a (QF6 ‹_› ‹_›)
 have s:=aa e
 refine w5 ?_
 cases f:(decide ((b.2.2.1.length:Int)=0))
 have t:=ab f
 refine w5 ?_
 cases h:(decide ((b.2.2.1.length:Int)=1))
 have u:=ab h
 refine w13 ?_
 refine fqB d ?_
 exact QF3 ((QuB a ‹_› ‹_› ‹_›).trans (QAP ‹_›)) ‹_› ‹_›
 have u:=aa h
 refine w2 ?_
 obtain ⟨L,H⟩:=gx b.2.2.1 0
 refine w3 ?_
 refine lgy rfl rfl (Qh Qb1 ⟨_,_,rfl,(Qm rfl),rfl⟩ (ao.1 rfl) rfl rfl)<|lgy rfl rfl (H9 Qxq Qxo (Qm rfl) (Qm rfl) (p:=L) (q:=(i,false)) rfl rfl rfl)<|w6 ?_
 refine fqB d ?_
 exact QF1 ((QuB a ‹_› ‹_› ‹_›).trans (QAP ‹_›)) ‹_› ‹_› H
 have t:=aa f
 refine w5 ?_
 iterate 7 refine Qf rfl rfl rfl ?_ rfl
 refine w6 ?_
 refine fqB d ?_
 exact QF5 ((QuB a ‹_› ‹_› ‹_›).trans (QAP ‹_›)) ‹_›
 have E:¬(b.2.1=5):=QL c
 refine w6 ?_
 cases j:(decide (0<(b.2.2.2.length:Int)))
 have v:=ab j
 refine w5 ?_
 refine lgy rfl rfl (dK (Wf b.2.2.1 (n.2.length:Int) (by omega)) Ja)<|w3 ?_
 cases m:(decide (Hg (n.2.length:Int) b.2.2.1))
 have w:=ab m
 refine w5 ?_
 refine fqB d ?_
 exact QuA a (QDq ‹_›)
 have w:=aa m
 refine w12 ?_
 refine cd_ (fun _ _=> ?_) fun _ _=> ?_
 refine w5 ?_
 cases o:(decide (b.2.1=2))
 have z:=ab o
 refine w5 ?_
 refine cd_ (fun _ _=> ?_) fun _ _=> ?_
 refine w4 ?_
 refine cd_ (fun _ _=> ?_) fun _ _=> ?_
 refine w4 ?_
 have D:(decide (b.2.1=5))=false:=XV c
 try rw[D]
 refine w7 ?_
 refine fqB d ?_
 exact QuA a (QF4 (QF8 ‹_› ‹_› ‹_› ‹_› ‹_›))
 refine w8 ?_
 refine fqB d ?_
 exact QnK ((QxO a (by omega) ‹_› ‹_›).trans (QDs ‹_›))
 refine w4 ?_
 refine lc (dK (QE (b.2.2.1.length:Int) 1 8) Za)<|w3 ?_
 refine fqB d ?_
 exact QnK ((QxO a (by omega) ‹_› ‹_›).trans (QDr (.inr ‹_›)))
 have z:=aa o
 refine w7 ?_
 refine lc (dK (QE (b.2.2.1.length:Int) 1 8) Za)<|w3 ?_
 refine fqB d ?_
 exact QnK ((QxO a (by omega) ‹_› ‹_›).trans (QDr (.inl ‹_›)))
 refine w8 ?_
 refine fqB d ?_
 exact QnK ((QxO a (by omega) ‹_› ‹_›).trans (QF7 ‹_›))
 have v:=aa j
 refine w14 ?_
 refine fqB d ?_
 exact QuA a (QF2 ‹_› ‹_›)
section
variable {n:DNl}{k:Nat}{i:Int}{x y:DWr}{g:Qs}{p:DPn}{l:List DWr}
def QEJ (a:n.2[k]? =some x)(h:¬Hf n (k:Int)):¬Km n k x:=fun q=>h ((iwk (i:=(k:Int)) a).2 q.1.1)
def QEK (h:¬YP x.1):¬Km n k x:=fun q=>h q.1.2.1
def QEL (d:l=n.2.take k)(h:0≤Zj (fun y:DWr=>decide (y.1=x.1)) l):¬Km n k x:=fun q=>by
 rcases QbC (fun y:DWr=>decide (y.1=x.1)) l with ⟨e,_⟩|⟨j,y,_,a,b,_⟩
 ·omega
 ·rw[d,bf] at a
  split at a
  ·rename_i c
   exact q.1.2.2 j y c a (by simpa using b)
  ·cases a
def QEM (b:k<n.1.length)(a:n.1[k]? =some g)(h:¬x.1=g.1):¬Km n k x:=fun q=>h (q.2.1 b g a).1
def QEN (b:k<n.1.length)(a:n.1[k]? =some g)(h:(decide (x.2.1=1)==decide (g.2=1))=false):¬Km n k x:=fun q=>by
 have:=(q.2.1 b g a).2
 rw[bu.2 this,dM] at h;cases h
def QEO (c:¬k<n.1.length)(a:¬x.2.1=2)(b:¬x.2.1=3):¬Km n k x:=fun q=>by have:=(q.2.2 (by omega)).1;omega
def QzP (a:¬k<n.1.length)(h:¬Hg (k:Int) x.2.2.1):¬Km n k x:=fun q=>h (q.2.2 (by omega)).2
def Qwe (c:l=n.2.take k)(h:¬0≤Zj (fun y:DWr=>decide (y.1=x.1)) l):∀j y,j<k→n.2[j]? =some y→¬y.1=x.1:=fun j y b d e=>by
 rcases QbC (fun y:DWr=>decide (y.1=x.1)) l with ⟨_,a⟩|⟨j,y,f,_⟩
 ·have:=a y (by rw[c];exact ah (i:=j) (by rw[bf,if_pos b];exact d))
  simp[e] at this
 ·omega
def QEP (q:n.2[k]? =some x)(d:Hf n (k:Int))(e:YP x.1)(f:∀j y,j<k→n.2[j]? =some y→¬y.1=x.1)(o:k<n.1.length)(m:n.1[k]? =some g)(b:x.1=g.1)(c:(decide (x.2.1=1)==decide (g.2=1))=true):Km n k x:=
 ⟨⟨d x q,e,f⟩,fun _ r a=>by rw[m] at a;cases a;exact ⟨b,bu.1 (eq_of_beq c)⟩,fun h=>absurd o (by omega)⟩
def QzQ (m:n.2[k]? =some x)(a:Hf n (k:Int))(b:YP x.1)(c:∀j y,j<k→n.2[j]? =some y→¬y.1=x.1)(f:¬k<n.1.length)(d:x.2.1=2∨x.2.1=3)(e:Hg (k:Int) x.2.2.1):Km n k x:=
 ⟨⟨a x m,b,c⟩,fun h=>absurd h f,fun _=>⟨d,e⟩⟩
def Qoa {m:Nat}(b:∀j,j<m→∀p,x.2.2.1[j]? =some p→PsW n i p)(c:x.2.2.1.length≤m):Kk n i x↔KdS i x:=
 ⟨fun q=>q.2,fun q=>⟨fun p d=>by
  obtain ⟨j,a⟩:=aG.1 d
  exact b j (ba (ae.1 a).1 c) p a,q⟩⟩
def QD9 (a:p∈x.2.2.1)(h:¬PsW n i p):¬Kk n i x:=fun q=>h (q.1 p a)
def QGu (h:¬(0≤p.1∧p.1≤(n.2.length:Int) - 1)):¬PsW n i p:=fun q=>h q.1
def QGv (a:(n.1.length:Int)≤i)(b:i≤p.1):¬PsW n i p:=fun q=>q.2 ⟨a,b⟩
def QF9 (h:x.2.1=1):KdS i x↔PnN x=0:=⟨fun q=>q.1 h,fun q=>⟨fun _=>q,fun e=>by omega,fun e=>by omega,fun e=>absurd h e⟩⟩
def QGa (h:x.2.1=4):KdS i x↔PnN x=2:=⟨fun q=>q.2.1 h,fun q=>⟨fun e=>by omega,fun _=>q,fun e=>by omega,fun _ e=>absurd h e⟩⟩
def QxQ (h:x.2.1=5):KdS i x↔PnN x=0∨(PnN x=1∧x.2.2.1[0]? =some (i,false)):=⟨fun q=>q.2.2.1 h,fun q=>⟨fun e=>by omega,fun e=>by omega,fun _=>q,fun _ _ e=>absurd h e⟩⟩
def QGe (a:¬x.2.1=1)(b:¬x.2.1=4)(c:¬x.2.1=5):KdS i x↔1≤PnN x∧PnN x≤8:=⟨fun q=>q.2.2.2 a b c,fun q=>⟨fun e=>absurd e a,fun e=>absurd e b,fun e=>absurd e c,fun _ _ _=>q⟩⟩
def QGf (h:Kk n i x↔PnN x=0∨(PnN x=1∧x.2.2.1[0]? =some (i,false)))[Decidable (Kk n i x)](h0:PnN x=0):true=decide (Kk n i x):=(ay (h.2 (.inl h0))).symm
theorem QGc (h:Kk n i x↔PnN x=0∨(PnN x=1∧x.2.2.1[0]? =some (i,false)))[Decidable (Kk n i x)](h0:¬PnN x=0)(a:¬PnN x=1):false=decide (Kk n i x):=by grind
def QGd (h:Kk n i x↔PnN x=0∨(PnN x=1∧x.2.2.1[0]? =some (i,false)))[Decidable (Kk n i x)](h0:¬PnN x=0)(b:x.2.2.1[0]? =some p)(a:¬p.1=i):false=decide (Kk n i x):=(aj fun q=>by
 rcases h.1 q with q|q
 ·exact h0 q
 ·rw[b] at q;exact a (congrArg Prod.fst (bD q.2))).symm
theorem QGb (h:Kk n i x↔PnN x=0∨(PnN x=1∧x.2.2.1[0]? =some (i,false)))[Decidable (Kk n i x)](h0:¬PnN x=0)(a:PnN x=1)(c:x.2.2.1[0]? =some p)(b:p.1=i):(!p.2)=decide (Kk n i x):=by
 grind
def QER (h:¬(1≤x.2.1∧x.2.1≤5)):¬QaB n i x:=fun q=>h q.1.1
def QES (a:¬i<(n.1.length:Int))(b:¬x.2.1=2)(c:¬x.2.1=3):¬QaB n i x:=fun q=>by have:=q.1.2 a;omega
def QET (b:i<(n.1.length:Int))(a:n.1[i.toNat]? =some g)(h:¬x.1=g.1):¬QaB n i x:=fun q=>h (q.2.1 b g a).1
def QEU (b:i<(n.1.length:Int))(a:n.1[i.toNat]? =some g)(h:(decide (x.2.1=1)==decide (g.2=1))=false):¬QaB n i x:=fun q=>by
 have:=(q.2.1 b g a).2
 rw[bu.2 this,dM] at h;cases h
def QEV (a:x.2.1=5)(h:¬ZZ (n.1.length:Int) x.2.2.2):¬QaB n i x:=fun q=>h (q.2.2.1.1 a)
def Qwf (a:¬x.2.1=5)(h:0<(x.2.2.2.length:Int)):¬QaB n i x:=fun q=>by have:=q.2.2.1.2 a;omega
def Qqp (h:¬YP x.1):¬QaB n i x:=fun q=>h q.2.2.2.1
def QB4 (a:¬x.2.1=5)(h:¬0<(x.2.2.2.length:Int)):Qqv (n.1.length:Int) x:=⟨fun e=>absurd e a,fun _=>by omega⟩
def QGU (a:x.2.1=5)(h:ZZ (n.1.length:Int) x.2.2.2):Qqv (n.1.length:Int) x:=⟨fun _=>h,fun e=>absurd a e⟩
def QEW (e:i<(n.1.length:Int))(d:n.1[i.toNat]? =some g)(b:x.1=g.1)(c:(decide (x.2.1=1)==decide (g.2=1))=true):(¬i<(n.1.length:Int)→x.2.1=2∨x.2.1=3)∧(i<(n.1.length:Int)→∀g,n.1[i.toNat]? =some g→x.1=g.1∧(x.2.1=1↔g.2=1)):=
 ⟨fun h=>absurd e h,fun _ f a=>by rw[d] at a;cases a;exact ⟨b,bu.1 (eq_of_beq c)⟩⟩
def QEQ (a:¬i<(n.1.length:Int))(h:x.2.1=2∨x.2.1=3):(¬i<(n.1.length:Int)→x.2.1=2∨x.2.1=3)∧(i<(n.1.length:Int)→∀g,n.1[i.toNat]? =some g→x.1=g.1∧(x.2.1=1↔g.2=1)):=⟨fun _=>h,fun e=>absurd e a⟩
def QyX (b:1≤x.2.1∧x.2.1≤5)(a:(¬i<(n.1.length:Int)→x.2.1=2∨x.2.1=3)∧(i<(n.1.length:Int)→∀g,n.1[i.toNat]? =some g→x.1=g.1∧(x.2.1=1↔g.2=1)))(c:Qqv (n.1.length:Int) x)(d:YP x.1)
 [Decidable (QaB n i x)] [Decidable (Kk n i x)]:decide (Kk n i x)=decide (QaB n i x):=bu.2 ⟨fun q=>⟨⟨b,a.1⟩,a.2,c,d,q⟩,fun q=>q.2.2.2.2⟩
def QDc (a:n.2[k]? =some x)(h:¬QaB n (k:Int) x):¬QV n:=QaX a fun q=>h ((Qwg a).1 q).1
def QAD {j:Nat}(b:n.2[k]? =some x)(d:l=n.2.take k)(a:l[j]? =some y)(h:y.1=x.1):¬QV n:=QaX b fun q=>by
 rw[d,bf] at a
 split at a
 ·rename_i c;exact ((Qwg b).1 q).2 j y c a h
 ·cases a
theorem QFW {m:Nat}(c:n.2[k]? =some x)(h:QaB n (k:Int) x)(b:l=n.2.take k)(f:∀j,j<m→∀y,l[j]? =some y→¬y.1=x.1)(o:l.length≤m):Km n k x:=(Qwg c).2 ⟨h,fun j y a d=>by
 have e:l[j]? =some y:=by rw[b,bf,if_pos a];exact d
 grind⟩
end
def Wh (n:Ua)(i:Int)(w:QtQ)[∀n i w,Decidable (Kk n i w)]:FC prog 250 [(true,[.dat Qj n.1,.dat Zk n.2]),(false,[dI i]),(true,[dS w.1,dI w.2.1,.dat XY w.2.2.1,.dat Qd w.2.2.2])] [] 0 (QJ (lB (decide (Kk n i w)))):=by
 refine Ql func250 rfl rfl ntmps250 fun L b K F M H G=>w_ ?_
 refine xbx 0 ?_
 refine xbx 1 ?_
 refine w6 ?_
 refine alL 10 fun _=> ?_
 refine w4 ?_
 refine lpK w.2.2.1.length (fun k=>∀j,j<k→∀p,w.2.2.1[j]? =some p→PsW n i p) (fun k=>⟨[(1,lI i),(3,lP 0 0),(5,lP 1 0),(10,lf (.dat XY w.2.2.1)),(11,lI (w.2.2.1.length:Int)),(12,lI (k:Int))],[bx 0 48 [.dat Qj n.1,.dat Zk n.2],bx 1 147 [dS w.1,dI w.2.1,.dat XY w.2.2.1,.dat Qd w.2.2.2]]⟩) ((fun j I=>absurd I (aS j))) ?_ fun k _ a=> ?_
 exact wo []
 refine w4 ?_
 cases z:(decide ((k:Int)<(w.2.2.1.length:Int)))
 have A:=ab z
 refine w13 ?_
 refine cd_ (fun _ _=> ?_) fun _ _=> ?_
 refine w4 ?_
 refine cd_ (fun _ _=> ?_) fun _ _=> ?_
 refine w4 ?_
 refine cd_ (fun _ _=> ?_) fun _ _=> ?_
 refine w6 ?_
 refine lc (dK (ZD (w.2.2.1.length:Int) 1 8) Yj)<|w3 ?_
 refine fqB b ?_
 exact QnK ((Qoa a (by omega)).trans (QGe ‹_› ‹_› ‹_›))
 refine w6 ?_
 cases c:(decide ((w.2.2.1.length:Int)=0))
 have o:=ab c
 refine w5 ?_
 cases d:(decide ((w.2.2.1.length:Int)=1))
 have r:=ab d
 refine w16 ?_
 refine w4 ?_
 refine fqB b ?_
 exact QGc ((Qoa a (by omega)).trans (QxQ ‹_›)) ‹_› ‹_›
 have r:=aa d
 refine w2 ?_
 obtain ⟨J,C⟩:=gx w.2.2.1 0
 have B:=C
 refine w7 ?_
 cases e:(decide (J.1=i))
 have s:=ab e
 refine w11 ?_
 refine fqB b ?_
 exact QGd ((Qoa a (by omega)).trans (QxQ ‹_›)) ‹_› B ‹_›
 have s:=aa e
 refine w11 ?_
 refine fqB b ?_
 exact QGb ((Qoa a (by omega)).trans (QxQ ‹_›)) ‹_› ‹_› B ‹_›
 have o:=aa c
 refine w5 ?_
 iterate 7 refine Qf rfl rfl rfl ?_ rfl
 refine w2 ?_
 iterate 6 refine Qf rfl rfl rfl ?_ rfl
 refine w5 ?_
 refine fqB b ?_
 exact QGf ((Qoa a (by omega)).trans (QxQ ‹_›)) ‹_›
 refine w8 ?_
 refine fqB b ?_
 exact QnK ((Qoa a (by omega)).trans (QGa ‹_›))
 refine w8 ?_
 refine fqB b ?_
 exact QnK ((Qoa a (by omega)).trans (QF9 ‹_›))
 have A:=aa z
 refine w5 ?_
 obtain ⟨p,D⟩:=gx w.2.2.1 k
 have E:=D
 refine w2 ?_
 refine lc (xal 2 Q0 Qaz)<|w7 ?_
 refine alL 19 fun _=> ?_
 refine w2 ?_
 refine lc (dK (ZD p.1 0 ((n.2.length:Int) - 1)) Yj)<|w2 ?_
 cases f:(decide (0≤p.1∧p.1≤((n.2.length:Int) - 1)))
 have t:=ab f
 refine w6 ?_
 iterate 4 refine Qf rfl rfl rfl ?_ rfl
 refine w8 ?_
 refine fqB b ?_
 exact (aj (QD9 (ah E) (QGu ‹_›))).symm
 have t:=aa f
 refine w6 ?_
 cases h:(decide ((n.1.length:Int)≤i))
 have u:=ab h
 refine w13 ?_
 exact Qc<|lK_ ((Z5 a E (by first|exact ⟨by assumption,fun q=>absurd q.1 (by omega)⟩|exact ⟨by assumption,fun q=>absurd q.2 (by omega)⟩)))<|wo []
 have u:=aa h
 refine w7 ?_
 cases m:(decide (i≤p.1))
 have v:=ab m
 refine w6 ?_
 exact Qc<|lK_ ((Z5 a E (by first|exact ⟨by assumption,fun q=>absurd q.1 (by omega)⟩|exact ⟨by assumption,fun q=>absurd q.2 (by omega)⟩)))<|wo []
 have v:=aa m
 refine w5 ?_
 refine fqB b ?_
 exact (aj (QD9 (ah E) (QGv ‹_› ‹_›))).symm
def Qeg (n:Ua)(i:Int)(w:QtQ)[∀n i w,Decidable (QaB n i w)](hi:0≤i):FC prog 175 [(true,[.dat Qj n.1,.dat Zk n.2]),(false,[dI i]),(true,[dS w.1,dI w.2.1,.dat XY w.2.2.1,.dat Qd w.2.2.2])] [] 0 (QJ (lB (decide (QaB n i w)))):=by
 classical
 refine Ql func175 rfl rfl ntmps175 fun X b W T Y V U=>acI 1 fun _=>w_ ?_
 refine xbx 0 ?_
 refine xbx 1 ?_
 refine w6 ?_
 refine alL 10 fun _=> ?_
 refine w8 ?_
 refine lc (dK (ZD w.2.1 1 5) Yj)<|w2 ?_
 cases I:(decide (1≤w.2.1∧w.2.1≤5))
 have J:=ab I
 refine w3 ?_
 iterate 3 refine Qf rfl rfl rfl ?_ rfl
 refine w2 ?_
 iterate 3 refine Qf rfl rfl rfl ?_ rfl
 refine w8 ?_
 refine fqB b ?_
 exact (aj (QER ‹_›)).symm
 have J:=aa I
 refine w3 ?_
 cases K:(decide (i<(n.1.length:Int)))
 have L:=ab K
 refine w5 ?_
 cases f:(!decide (w.2.1=2))
 have M:(w.2.1=2):=QB f
 refine w9 ?_
 apply dW (i9 31 _ _ _ _ _ _ _ _ _ (i9 40 _ _ _ _ _ _ _ _ _ (i7 49 _ _ _ _ _ _ _ []))) [0,0,0,0,12,12,60,12,12,12,0,0,0,0,0,28672,28672,126976,28672,28672,28672,28672,0,0,0]
 refine z16 ?_
 exact y9
 refine w8 ?_
 have Q:(decide (w.2.1=5))=false:=aj fun a=>absurd ((aa (XV f)).symm.trans a) (by decide)
 try rw[Q]
 refine w13 ?_
 have N:(!decide (w.2.1=5))=true:=XW (aj fun a=>absurd ((aa (XV f)).symm.trans a) (by decide))
 have S:¬(w.2.1=5):=QL N
 try rw[N]
 refine w7 ?_
 refine cd_ (fun _ _=> ?_) fun _ _=> ?_
 refine w4 ?_
 refine lc (dK (WG w.1) Jb)<|w_ ?_
 cases j:(decide (YP w.1))
 have t:=ab j
 refine w8 ?_
 refine fqB b ?_
 exact (aj (Qqp ‹_›)).symm
 have t:=aa j
 refine w3 ?_
 refine lgy rfl rfl (dK (Wh n i w) Jd)<|w4 ?_
 refine fqB b ?_
 exact QyX ‹_› (QEQ ‹_› (.inl ‹_›)) (QB4 ‹_› ‹_›) ‹_›
 refine w4 ?_
 refine fqB b ?_
 exact (aj (Qwf ‹_› ‹_›)).symm
 have M:¬(w.2.1=2):=QL f
 refine w6 ?_
 refine cn_ (fun e _=> ?_) fun e _=> ?_
 refine w2 ?_
 apply dW (i9 31 _ _ _ _ _ _ _ _ _ (i9 40 _ _ _ _ _ _ _ _ _ (i7 49 _ _ _ _ _ _ _ []))) [0,0,0,0,12,12,60,12,12,12,0,0,0,0,0,28672,28672,126976,28672,28672,28672,28672,0,0,0]
 refine z16 ?_
 exact y9
 refine w8 ?_
 have F:(decide (w.2.1=5))=false:=aj fun a=>absurd ((aa (XV e)).symm.trans a) (by decide)
 try rw[F]
 refine w13 ?_
 have m:(!decide (w.2.1=5))=true:=XW (aj fun a=>absurd ((aa (XV e)).symm.trans a) (by decide))
 have P:¬(w.2.1=5):=QL m
 try rw[m]
 refine w7 ?_
 refine cd_ (fun _ _=> ?_) fun _ _=> ?_
 refine w4 ?_
 refine lc (dK (WG w.1) Jb)<|w_ ?_
 cases o:(decide (YP w.1))
 have u:=ab o
 refine w8 ?_
 refine fqB b ?_
 exact (aj (Qqp ‹_›)).symm
 have u:=aa o
 refine w3 ?_
 refine lgy rfl rfl (dK (Wh n i w) Jd)<|w4 ?_
 refine fqB b ?_
 exact QyX ‹_› (QEQ ‹_› (.inr ‹_›)) (QB4 ‹_› ‹_›) ‹_›
 refine w4 ?_
 refine fqB b ?_
 exact (aj (Qwf ‹_› ‹_›)).symm
 refine w4 ?_
 refine fqB b ?_
 exact (aj (QES ‹_› ‹_› ‹_›)).symm
 have L:=aa K
 refine w14 ?_
 obtain ⟨E,O⟩:=gx n.1 ((i).toNat)
 have h:=O
 cases c:(!decide (w.1=E.1))
 have z:(w.1=E.1):=QB c
 apply dW (i9 31 _ _ _ _ _ _ _ _ _ (io 40 _::io 41 (lB false)::i9 42 _ _ _ _ _ _ _ _ _ (i2 51 _ _ (io 53 (lB (!((decide (w.2.1=1))==(decide (E.2=1)))))::i2 54 _ _ [])))) [0,0,0,0,12,12,60,12,12,12,0,0,0,0,0,28672,28672,126976,28672,28672,28672,28672,0,0,0]
 refine z10 ?_
 refine zz (fun _ a=>day rfl (a.k rfl) (Qz (XW (XV c)) (V0 (a.v rfl) (a.v rfl) rfl)) rfl)<|z11 ?_
 exact zz (fun _ a=>day rfl (a.k rfl) (ZG (a.v rfl) (a.v rfl) rfl YY) rfl)<|y2
 cases R:((decide (w.2.1=1))==(decide (E.2=1)))
 refine w5 ?_
 refine fqB b ?_
 exact (aj (QEU ‹_› h ‹_›)).symm
 refine w8 ?_
 cases d:(decide (w.2.1=5))
 have A:=ab d
 refine w13 ?_
 have G:(!decide (w.2.1=5))=true:=XW (d)
 try rw[G]
 refine w7 ?_
 refine cd_ (fun _ _=> ?_) fun _ _=> ?_
 refine w4 ?_
 refine lc (dK (WG w.1) Jb)<|w_ ?_
 cases q:(decide (YP w.1))
 have B:=ab q
 refine w8 ?_
 refine fqB b ?_
 exact (aj (Qqp ‹_›)).symm
 have B:=aa q
 refine w3 ?_
 refine lgy rfl rfl (dK (Wh n i w) Jd)<|w4 ?_
 refine fqB b ?_
 exact QyX ‹_› (QEW ‹_› h ‹_› ‹_›) (QB4 ‹_› ‹_›) ‹_›
 refine w4 ?_
 refine fqB b ?_
 exact (aj (Qwf ‹_› ‹_›)).symm
 have A:=aa d
 refine w5 ?_
 refine lgy rfl rfl (dK (Wg (n.1.length:Int) w.2.2.2) Jc)<|w3 ?_
 cases r:(decide (ZZ (n.1.length:Int) w.2.2.2))
 have C:=ab r
 refine w4 ?_
 iterate 4 refine Qf rfl rfl rfl ?_ rfl
 refine w8 ?_
 refine fqB b ?_
 exact (aj (QEV ‹_› ‹_›)).symm
 have C:=aa r
 refine w4 ?_
 have H:(!decide (w.2.1=5))=false:=XW (d)
 try rw[H]
 refine w12 ?_
 refine lc (dK (WG w.1) Jb)<|w_ ?_
 cases s:(decide (YP w.1))
 have D:=ab s
 refine w8 ?_
 refine fqB b ?_
 exact (aj (Qqp ‹_›)).symm
 have D:=aa s
 refine w3 ?_
 refine lgy rfl rfl (dK (Wh n i w) Jd)<|w4 ?_
 refine fqB b ?_
 exact QyX ‹_› (QEW ‹_› h ‹_› ‹_›) (QGU ‹_› ‹_›) ‹_›
 have z:¬(w.1=E.1):=QL c
 apply dW (i9 31 _ _ _ _ _ _ _ _ _ (io 40 _::io 41 (lB true)::i9 42 _ _ _ _ _ _ _ _ _ (i5 51 _ _ _ _ _ []))) [0,0,0,0,12,12,60,12,12,12,0,0,0,0,0,28672,28672,126976,28672,28672,28672,28672,0,0,0]
 refine z10 ?_
 exact zz (fun _ a=>day rfl (a.k rfl) (Qz (XW (XV c)) (V0 (a.v rfl) (a.v rfl) rfl)) rfl)<|y14
 refine w5 ?_
 refine fqB b ?_
 exact (aj (QET ‹_› h ‹_›)).symm
def VF (n:Ua)[∀n,Decidable (QV n)]:FC prog 98 [(true,[.dat Qj n.1,.dat Zk n.2])] [] 0 (QJ (lB (decide (QV n)))):=by
 classical
 refine Ql func98 rfl rfl ntmps98 fun K m J F L H G=>w_ ?_
 refine xbx 0 ?_
 refine w6 ?_
 refine lc (dK (WH n.1) Qbb)<|w2 ?_
 cases o:(decide (Z4 n.1))
 have q:=ab o
 refine w16 ?_
 refine w4 ?_
 refine fqB m ?_
 exact (aj (QDS ‹_›)).symm
 have q:=aa o
 refine w2 ?_
 refine alL 13 fun _=> ?_
 refine w7 ?_
 cases r:(decide ((n.2.length:Int)<(n.1.length:Int)))
 have s:=ab r
 refine w6 ?_
 refine cd_ (fun _ _=> ?_) fun _ _=> ?_
 refine w9 ?_
 refine lpK n.2.length (fun k=>∀j,j<k→∀x,n.2[j]? =some x→Km n j x) (fun k=>⟨[(1,lP 0 0),(27,lf (.dat Zk n.2)),(28,lI (n.2.length:Int)),(29,lI (k:Int))],[bx 0 48 [.dat Qj n.1,.dat Zk n.2]]⟩) ((fun j A=>absurd A (aS j))) ?_ fun k _ C=> ?_
 exact wo []
 refine w4 ?_
 cases t:(decide ((k:Int)<(n.2.length:Int)))
 have u:=ab t
 refine w7 ?_
 refine fqB m ?_
 exact Qu5 ‹_› (by omega) C (by omega)
 have u:=aa t
 refine w6 ?_
 obtain ⟨x,v⟩:=gx n.2 k
 have z:=v
 refine w2 ?_
 refine lc (xal 1 Zm Xa)<|w8 ?_
 refine lc (dK (Qeg n (k:Int) x (by omega)) QmL)<|w2 ?_
 cases a:(decide (QaB n (k:Int) x))
 have d:=ab a
 refine w5 ?_
 refine fqB m ?_
 exact (aj (QDc z ‹_›)).symm
 have d:=aa a
 refine w6 ?_
 refine lc (Ws (l:=none) (h:=(some (k:Int))) (Qa rfl) (by exact trivial) (by exact (Qa rfl)) X4 YU rfl (by simp only[aq,ap];omega) (by simp only[aq,ap];omega) (by simp only[aq,ap];omega))<|w4 ?_
 refine lpK (((n.2.take ((k:Int)).toNat).drop 0).length) (fun i=>∀j,j<i→∀y,((n.2.take ((k:Int)).toNat).drop 0)[j]? =some y→¬y.1=x.1) (fun i=>⟨[(1,lP 0 0),(4,lP 1 0),(27,lf (.dat Zk n.2)),(28,lI (n.2.length:Int)),(29,lI (k:Int)),(42,lf (.dat Zk ((n.2.take ((k:Int)).toNat).drop 0))),(43,lI (((n.2.take ((k:Int)).toNat).drop 0).length:Int)),(44,lI (i:Int))],[bx 0 48 [.dat Qj n.1,.dat Zk n.2],bx 1 147 [dS x.1,dI x.2.1,.dat XY x.2.2.1,.dat Qd x.2.2.2]]⟩) ((fun j A=>absurd A (aS j))) ?_ fun i _ D=> ?_
 exact wo []
 have I:((n.2.take ((k:Int)).toNat).drop 0).length≤24:=by simp only[dH,au];omega
 refine w4 ?_
 cases b:(decide ((i:Int)<(((n.2.take ((k:Int)).toNat).drop 0).length:Int)))
 have e:=ab b
 refine w6 ?_
 exact Qc<|lK_ ((QeS C z (QFW z ‹_› (by simp) D (by omega))))<|wo []
 have e:=aa b
 refine w5 ?_
 obtain ⟨B,w⟩:=gx ((n.2.take ((k:Int)).toNat).drop 0) i
 have E:=w
 refine w2 ?_
 refine lc (xal 2 Zm Xa)<|w9 ?_
 cases c:(decide (B.1=x.1))
 have f:=ab c
 refine w6 ?_
 exact Qc<|lK_ ((Z5 D E ‹_›))<|wo []
 have f:=aa c
 refine w5 ?_
 refine fqB m ?_
 exact (aj (QAD z (by simp) E ‹_›)).symm
 refine w4 ?_
 refine fqB m ?_
 exact (aj (QBb (by omega))).symm
 have s:=aa r
 refine w11 ?_
 refine fqB m ?_
 exact (aj (QBb (by omega))).symm
def Jn (n:Ua)[∀n,Decidable (QV n)]:FC prog 94 [(true,[.dat Qj n.1,.dat Zk n.2])] [] 0 (QJ (lB (decide (QV n)))):=by
 classical
 refine Ql func94 rfl rfl ntmps94 fun Y f X T Z V U=>w_ ?_
 refine xbx 0 ?_
 refine w6 ?_
 refine lc (dK (Ug n.1) QhP)<|w2 ?_
 cases I:(decide (Z4 n.1))
 have J:=ab I
 refine w15 ?_
 refine fqB f ?_
 exact (aj (QDS ‹_›)).symm
 have J:=aa I
 refine w2 ?_
 refine alL 11 fun _=> ?_
 refine w4 ?_
 refine lgy rfl rfl (dK (QE (n.2.length:Int) (n.1.length:Int) 24) Za)<|w3 ?_
 cases K:(decide ((n.1.length:Int)≤(n.2.length:Int)∧(n.2.length:Int)≤24))
 have L:=ab K
 refine w5 ?_
 refine fqB f ?_
 exact (aj (QBb ‹_›)).symm
 have L:=aa K
 refine w10 ?_
 refine lpK n.2.length (fun k=>∀j,j<k→∀x,n.2[j]? =some x→Km n j x) (fun k=>⟨[(1,lP 0 0),(20,lf (.dat Zk n.2)),(21,lI (n.2.length:Int)),(22,lI (k:Int))],[bx 0 48 [.dat Qj n.1,.dat Zk n.2]]⟩) ((fun j W=>absurd W (aS j))) ?_ fun k _ P=> ?_
 exact wo []
 refine w4 ?_
 cases M:(decide ((k:Int)<(n.2.length:Int)))
 have N:=ab M
 refine w7 ?_
 refine fqB f ?_
 exact Qu5 ‹_› ‹_› P (by omega)
 have N:=aa M
 refine w6 ?_
 obtain ⟨x,Q⟩:=gx n.2 k
 have c:=Q
 refine w2 ?_
 refine lc (xal 1 Zm Xa)<|w4 ?_
 cases b:(decide (Hf n (k:Int)))
 have u:=ab b
 apply dW (i2 27 _ _ (io 29 (lB false)::i9 30 _ _ _ _ _ _ _ _ _ (i8 39 _ _ _ _ _ _ _ _ []))) [0,1,0,0,0,0,0,0,0,0,0,0,0,6144,0,30720,30720,0,0,0]
 refine z2 ?_
 refine zz (fun _ a=>ac (Qz (b) (dK (Ui n (k:Int) (by omega) (by omega)) Qbe)) rfl)<|z16 ?_
 exact y1
 refine w5 ?_
 refine fqB f ?_
 exact (aj (QaX c (QEJ c ‹_›))).symm
 have u:=aa b
 cases d:(decide (YP x.1))
 have w:=ab d
 apply dW (i2 27 _ _ (io 29 (lB true)::i4 30 _ _ _ _ (io 34 (lB false)::i9 35 _ _ _ _ _ _ _ _ _ (i3 44 _ _ _ [])))) [0,1,0,0,0,0,0,0,0,0,0,0,0,6144,0,30720,30720,0,0,0]
 refine z2 ?_
 refine zz (fun _ a=>ac (Qz (b) (dK (Ui n (k:Int) (by omega) (by omega)) Qbe)) rfl)<|z4 ?_
 exact zz (fun _ a=>day rfl (a.k rfl) (Qz (d) (dK (Hx x.1) QfC)) rfl)<|y12
 refine w5 ?_
 refine fqB f ?_
 exact (aj (QaX c (QEK ‹_›))).symm
 have w:=aa d
 apply dW (i2 27 _ _ (io 29 (lB true)::i4 30 _ _ _ _ (io 34 (lB true)::i6 35 _ _ _ _ _ _ (io 41 (lf (.dat Zk ((n.2.take ((k:Int)).toNat).drop 0)))::i2 42 _ _ (io 44 (lI (Zj (fun R:DWr=>decide (R.1=x.1)) ((n.2.take ((k:Int)).toNat).drop 0)))::i2 45 _ _ []))))) [0,1,0,0,0,0,0,0,0,0,0,0,0,6144,0,30720,30720,0,0,0]
 refine z2 ?_
 refine zz (fun _ a=>ac (Qz (b) (dK (Ui n (k:Int) (by omega) (by omega)) Qbe)) rfl)<|z4 ?_
 refine zz (fun _ a=>day rfl (a.k rfl) (Qz (d) (dK (Hx x.1) QfC)) rfl)<|z6 ?_
 refine zz (fun _ a=>day rfl (a.k rfl) (Ws (l:=none) (h:=(some (k:Int))) (a.v rfl) (by exact trivial) (by exact (a.v rfl)) X4 YU rfl (by simp only[aq,ap];omega) (by simp only[aq,ap];omega) (by simp only[aq,ap];omega)) rfl)<|z2 ?_
 exact zz (fun _ a=>day rfl (a.k rfl) (dK (Qgb ((n.2.take ((k:Int)).toNat).drop 0) x.1) QmJ) rfl)<|y2
 cases m:(decide (0≤(Zj (fun R:DWr=>decide (R.1=x.1)) ((n.2.take ((k:Int)).toNat).drop 0))))
 have z:=ab m
 refine w9 ?_
 cases o:(decide ((k:Int)<(n.1.length:Int)))
 have A:=ab o
 refine w6 ?_
 cases q:(!decide (x.2.1=2))
 have B:(x.2.1=2):=QB q
 refine w8 ?_
 refine lgy rfl rfl (dK (Wf x.2.2.1 (k:Int) (by omega)) Ja)<|w3 ?_
 cases r:(decide (Hg (k:Int) x.2.2.1))
 have C:=ab r
 refine w5 ?_
 refine fqB f ?_
 exact (aj (QaX c (QzP (by omega) ‹_›))).symm
 have C:=aa r
 refine w6 ?_
 exact Qc<|lK_ ((by exact (QeS P c (QzQ c ‹_› ‹_› (Qwe (l:=(n.2.take ((k:Int)).toNat).drop 0) rfl ‹_›) (by omega) (.inl ‹_›) ‹_›))))<|wo []
 have B:¬(x.2.1=2):=QL q
 refine w5 ?_
 cases s:(!decide (x.2.1=3))
 have D:(x.2.1=3):=QB s
 refine w3 ?_
 refine lgy rfl rfl (dK (Wf x.2.2.1 (k:Int) (by omega)) Ja)<|w3 ?_
 cases t:(decide (Hg (k:Int) x.2.2.1))
 have E:=ab t
 refine w5 ?_
 refine fqB f ?_
 exact (aj (QaX c (QzP (by omega) ‹_›))).symm
 have E:=aa t
 refine w6 ?_
 exact Qc<|lK_ ((by exact (QeS P c (QzQ c ‹_› ‹_› (Qwe (l:=(n.2.take ((k:Int)).toNat).drop 0) rfl ‹_›) (by omega) (.inr ‹_›) ‹_›))))<|wo []
 have D:¬(x.2.1=3):=QL s
 refine w12 ?_
 refine fqB f ?_
 exact (aj (QaX c (QEO (by omega) ‹_› ‹_›))).symm
 have A:=aa o
 refine w_ ?_
 obtain ⟨H,O⟩:=gx n.1 k
 have G:=O
 cases e:(!decide (x.1=H.1))
 have F:(x.1=H.1):=QB e
 apply dW (i8 52 _ _ _ _ _ _ _ _ (io 60 (lB false)::i9 61 _ _ _ _ _ _ _ _ _ (i2 70 _ _ [io 72 (lB (!((decide (x.2.1=1))==(decide (H.2=1))))),io 73 _]))) [0,0,3,3,15,3,3,3,0,0,0,0,0,7168,7168,31744,7168,7168,7168,7168,0,0]
 refine z8 ?_
 refine zz (fun _ a=>ac (Qz (XW (XV e)) (V0 (a.v rfl) (a.v rfl) rfl)) rfl)<|z11 ?_
 exact zz (fun _ a=>day rfl (a.k rfl) (ZG (a.v rfl) (a.v rfl) rfl YY) rfl)<|y1
 cases S:((decide (x.2.1=1))==(decide (H.2=1)))
 refine w5 ?_
 refine fqB f ?_
 exact (aj (QaX c (QEN (by omega) G ‹_›))).symm
 refine w6 ?_
 exact Qc<|lK_ ((by exact (QeS P c (QEP c ‹_› ‹_› (Qwe (l:=(n.2.take ((k:Int)).toNat).drop 0) rfl ‹_›) (by omega) G ‹_› ‹_›))))<|wo []
 have F:¬(x.1=H.1):=QL e
 apply dW (i8 52 _ _ _ _ _ _ _ _ (io 60 (lB true)::i9 61 _ _ _ _ _ _ _ _ _ (i4 70 _ _ _ _ []))) [0,0,3,3,15,3,3,3,0,0,0,0,0,7168,7168,31744,7168,7168,7168,7168,0,0]
 refine z8 ?_
 exact zz (fun _ a=>ac (Qz (XW (XV e)) (V0 (a.v rfl) (a.v rfl) rfl)) rfl)<|y13
 refine w5 ?_
 refine fqB f ?_
 exact (aj (QaX c (QEM (by omega) G ‹_›))).symm
 have z:=aa m
 refine w5 ?_
 refine fqB f ?_
 exact (aj (QaX c (QEL (l:=(n.2.take ((k:Int)).toNat).drop 0) rfl ‹_›))).symm
end Go.Proofs.YtjfpbcmfbnnooaaGreat
