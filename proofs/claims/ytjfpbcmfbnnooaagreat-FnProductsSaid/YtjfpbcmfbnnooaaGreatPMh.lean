import Derived.Test.YtjfpbcmfbnnooaaGreatPMe
set_option linter.all false
namespace Go.Proofs.YtjfpbcmfbnnooaaGreat
open Go.RowKit Tryz
set_option maxRecDepth 100000
set_option maxHeartbeats 4000000
abbrev DSy:=DSg×DNl×List (List Int)
instance (c:DSg) (n:DNl) (b:DPs):Decidable (Wm c n b):=inferInstanceAs (Decidable (_∧_))
def Zz [∀c,Decidable (SgOk c)][∀n,Decidable (QV n)](c:DSg)(n:DNl):DSy:=if GoP c n then (c,n,toM c) else (([],[],[]),([],[]),[])
def Vu [∀c,Decidable (SgOk c)][∀n,Decidable (QV n)](c:DSg)(n:DNl):DPs:=if GoP c n then Xs c n else (0,⟨#[]⟩)
def HM (l:List DPs)(b:DPs):Int:=if b∈l then ((l.idxOf b:Nat):Int) else -1
section
variable {c:DSg}{n:DNl}{b x:DPs}{k m i:Nat}{a:DAr}{v:BA}{u:UInt8}{l:List DPs}{row:List Int}{M:List (List Int)}{sig t:Int}{w:DWr}{bb:Bool}{p:DPr}{q:Int}
def Qui (h:¬SgOk c):¬GoP c n:=fun g=>h g.1
def Quj (h:¬QV n):¬GoP c n:=fun g=>h g.2.1
def QDd (h:Qdq c=true):¬GoP c n:=fun g=>by rw[g.2.2.1] at h;cases h
def QDe (h:¬((VZ c.2.2 c.2.2.length).length:Int)=0):¬GoP c n:=fun g=>by have:=g.2.2.2.1;omega
def QDf (d:SgOk c)(e:QV n)(f:Qdq c=false)(h:((VZ c.2.2 c.2.2.length).length:Int)=0):GoP c n↔c.1=n.1:=⟨fun g=>g.2.2.2.2,fun g=>⟨d,e,f,by omega,g⟩⟩
def QAI (h:GoP c n)(f:a∈c.2.2):(0≤a.1∧a.1<(c.2.1.length:Int))∧(0≤a.2.1∧a.2.1<(c.1.length:Int)):=by
 obtain ⟨g,r,j,s⟩:=h.1.arcs a f
 refine ⟨⟨g.1,by omega⟩,?_⟩
 have e:=bV.1 h.2.2.1 a f
 rcases j with d|d
 ·have d:0≤a.2.1∧a.2.1≤(c.1.length:Int) - 1:=d;omega
 ·have o:a.2.1= -1:=d.1
  rw[ay o] at e;exact absurd rfl e
def W7 (h:GoP c n):(1≤c.2.1.length∧c.2.1.length≤300)∧c.2.2.length≤4000∧c.1.length=n.1.length∧n.1.length≤n.2.length∧n.2.length≤24∧c.1.length≤8:=by
 have d:=h.2.1.1.2
 refine ⟨h.1.some_,h.1.few,by rw[h.2.2.2.2],by omega,by omega,h.1.sigs.2.2⟩
def Qv2 (h:GoP c n)(j:M=toM c)(g:0≤b.1∧b.1≤(c.2.1.length:Int) - 1)(d:M[b.1.toNat]? =some row):row.length=c.1.length∧∀sig:Int,0≤sig→sig<(c.1.length:Int)→row[sig.toNat]? =some (toF c b.1 sig):=by
 subst j
 refine ⟨Qly (c:=c) rfl d,fun sig e f=> ?_⟩
 obtain ⟨r,o,y,s⟩:=QBY h g.1 (by omega) e f
 rw[o] at d;cases d;exact s
def Qoi (d:M=toM c):M.length=c.2.1.length:=by rw[d];exact Qlx
def QiP (e:k<n.1.length)(d:bb=inW n k)(f:toF c b.1 (k:Int)=t):flB c n b k=((bb||exW n b.2 k)&&decide (0≤t)):=by unfold flB;rw[Jz e,f,d]
def QAA (hb:0≤b.1)(d:n.1.length≤k):exW n b.2 (k:Int)=flB c n b k:=by
 unfold flB;rw[Qur d,QdD d,ay hb];simp
def QFR (d:k<n.1.length)(e:toF c b.1 (k:Int)=t)(h:¬0≤t):false=flB c n b k:=by rw[QiP d rfl e,aj h,dJ]
def QFS (f:QV n)(d:k<n.1.length)(j:n.2[k]? =some w)(g:toF c b.1 (k:Int)=t)(h:0≤t)(e:w.2.1=1):true=flB c n b k:=by
 rw[QiP d (QeO f j d) g,ay e,ay h];rfl
def QFT (f:QV n)(d:k<n.1.length)(j:n.2[k]? =some w)(g:toF c b.1 (k:Int)=t)(h:0≤t)(e:¬w.2.1=1):exW n b.2 (k:Int)=flB c n b k:=by
 rw[QiP d (QeO f j d) g,aj e,ay h];simp
def QyY (f:QV n)(e:k<n.1.length)(g:n.2[k]? =some w)(d:w.2.1=1):xtB c n b k=false:=by
 unfold xtB;rw[← QeO f g e,ay d];rfl
def QyZ (d:k<n.1.length)(e:toF c b.1 (k:Int)=t)(h:¬t<0):xtB c n b k=false:=by
 unfold xtB;rw[Jz d,e,aj h,dJ]
def QlF (f:QV n)(d:k<n.1.length)(j:n.2[k]? =some w)(g:toF c b.1 (k:Int)=t)(h:t<0)(e:¬w.2.1=1):xtB c n b k=exW n b.2 (k:Int):=by
 unfold xtB;rw[← QeO f j d,Jz d,g,aj e,ay h];simp
def Qk8 (g:v.toList[k]? =some u)(hb:bAt v (k:Int)=48∨bAt v (k:Int)=49):(⟨(v.toList.set k (u ^^^ 1)).toArray⟩:BA)=QbG v (k:Int):=by
 have f:k<v.size:=by have:=(ae.1 g).1;rwa [Xp] at this
 have d:bAt v (k:Int)=u:=by rw[X6,bW,g];rfl
 have e:(QbG v (k:Int)).toList=v.toList.set k (u ^^^ 1):=by
  unfold QbG
  rw[Qdy,d,bW,show ((k:Int)+1).toNat=k+1 by omega]
  rw[d] at hb
  rw[List.set_eq_take_append_cons_drop,if_pos (by rw[Xp];exact f)]
  congr 1
  rcases hb with rfl|rfl
  ·exact congrArg (fun z=>z++v.toList.drop (k+1)) (show (Z0 (decide ((48:UInt8)=48))).toList=[48 ^^^ 1] by decide+kernel)
  ·exact congrArg (fun z=>z++v.toList.drop (k+1)) (show (Z0 (decide ((49:UInt8)=48))).toList=[49 ^^^ 1] by decide+kernel)
 rw[bc] at e
 exact dQ (dp.1 (by rw[e]))
def QxC (d:k<n.1.length)(e:toF c b.1 (k:Int)=t):t=(flS c n b k).1:=by show t=tW c n b k;rw[Jz d,e]
def QAC (d:n.1.length≤k):b.1=(flS c n b k).1:=by show b.1=tW c n b k;rw[QdD d]
def QD1 (h:¬(0≤b.1∧b.1≤(c.2.1.length:Int) - 1)):¬Wm c n b:=fun g=>h g.1
def QD2 (h:¬Q7 b.2 (n.2.length:Int)):¬Wm c n b:=fun g=>h g.2.1
def QD3 (f:GoP c n)(h:0≤b.1∧b.1≤(c.2.1.length:Int) - 1)(e:Q7 b.2 (n.2.length:Int))(d:c.2.1[b.1.toNat]? =some v):Qn9 b.2 v=decide (Wm c n b):=by
 have o:=(f.1.codes v (ah d)).2
 have j:=W7 f
 have r:=e.2
 unfold Qn9
 rw[ay (show v.size≤b.2.size by omega),Bool.true_and]
 refine bu.2 ?_
 rw[show v.size=c.1.length by omega]
 exact ⟨fun g=>⟨h,e,by rw[g,ZH d]⟩,fun g=>by rw[g.2.2,ZH d]⟩
def QAw (h:b∉l.take k)(d:l[k]? =some x)(e:x=b):(k:Int)=HM l b:=by
 have g:=(ae.1 d).1
 subst e
 unfold HM
 rw[if_pos (ah d)]
 have f:l=l.take k++x::l.drop (k+1):=by
  conv=>lhs;rw[← bB k l,bS g,(ae.1 d).2]
 rw[f,List.idxOf_append,if_neg h]
 simp;omega
def QAx (h:b∉l.take k)(d:l.length≤k): -1=HM l b:=by
 rw[aJ d] at h
 unfold HM;rw[if_neg h]
def QC8 (h:b∉l.take k)(d:l[k]? =some x)(e:¬x=b):b∉l.take (k+1):=by
 rw[Qr d,aO,aI]
 rintro (g|g)
 ·exact h g
 ·exact e g.symm
def Qcn (h:HM l b<0):b∉l:=fun g=>by unfold HM at h;rw[if_pos g] at h;omega
def Qpc (h:¬HM l b<0):b∈l∧HM l b=((l.idxOf b:Nat):Int):=by
 by_cases g:b∈l
 ·exact ⟨g,if_pos g⟩
 ·unfold HM at h;rw[if_neg g] at h;omega
variable [∀c,Decidable (SgOk c)][∀n,Decidable (QV n)]
def Qg3 (h:GoP c n):c.1=(Zz c n).1.1∧c.2.1=(Zz c n).1.2.1∧c.2.2=(Zz c n).1.2.2∧n.1=(Zz c n).2.1.1∧n.2=(Zz c n).2.1.2∧toM c=(Zz c n).2.2∧true=decide (GoP c n):=by
 unfold Zz;rw[if_pos h,ay h];exact ⟨rfl,rfl,rfl,rfl,rfl,rfl,rfl⟩
def UZ (h:¬GoP c n):[]=(Zz c n).1.1∧[]=(Zz c n).1.2.1∧[]=(Zz c n).1.2.2∧[]=(Zz c n).2.1.1∧[]=(Zz c n).2.1.2∧[]=(Zz c n).2.2∧false=decide (GoP c n):=by
 unfold Zz;rw[if_neg h,aj h];exact ⟨rfl,rfl,rfl,rfl,rfl,rfl,rfl⟩
def QdX (h:GoP c n):Zz c n=(c,n,toM c):=if_pos h
def Qh8 (h:GoP c n):(Xs c n).1=(Vu c n).1∧(Xs c n).2=(Vu c n).2∧true=decide (GoP c n):=by
 unfold Vu;rw[if_pos h,ay h];exact ⟨rfl,rfl,rfl⟩
def Qh7 (h:¬GoP c n):(0:Int)=(Vu c n).1∧ByteArray.empty=(Vu c n).2∧false=decide (GoP c n):=by
 unfold Vu;rw[if_neg h,aj h];exact ⟨rfl,rfl,rfl⟩
end
def Ku (a:Int×Int×Bool×Int):FC prog 96 [(true,[dI a.1,dI a.2.1,dB a.2.2.1,dI a.2.2.2])] [] 0 (QJ (lB (decide (a.2.1= -1)))):=by
 refine Ql func96 rfl rfl ntmps96 fun j g h d o f e=>w_ ?_
 refine xbx 0 ?_
 refine w9 ?_
 refine fqB g ?_
 rfl
theorem QaD (l:QtR):FC prog 174 [(false,[.dat Qq l]),(false,[.clo 96 []])] [] 0 (QJ (lI (Zj (fun a:DAr=>decide (a.2.1= -1)) l))):=by
 refine Ql func174 rfl rfl ntmps174 fun A j z o B s r=>w6 ?_
 refine alL 6 fun _=> ?_
 refine w4 ?_
 refine lpK l.length (fun k=>NoneTo (fun a:DAr=>decide (a.2.1= -1)) l k) (fun k=>⟨[(0,lf (.dat Qq l)),(1,lf (.clo 96 [])),(7,lI (l.length:Int)),(8,lI (k:Int))],[]⟩) (NoneTo.zero) ?_ fun k _ d=> ?_
 exact wo []
 refine w4 ?_
 cases f:(decide ((k:Int)<(l.length:Int)))
 have g:=ab f
 refine w7 ?_
 refine fqI j ?_
 first|exact (d.no (by omega)).symm
 have g:=aa f
 refine w12 ?_
 obtain ⟨e,h⟩:=gx l k
 refine w2 ?_
 refine lc (Y3 (args0:=[(true,[dI e.1,dI e.2.1,dB e.2.2.1,dI e.2.2.2])]) (caps:=[]) 0 [] (Ku e) Qrh rfl (Qa rfl) rfl rfl ⟨_,_,rfl,(Qm rfl),rfl⟩ trivial rfl trivial (nlr rfl))<|w_ ?_
 cases y:(decide (e.2.1= -1))
 refine w6 ?_
 exact Qc<|lK_ (d.step h (by first|assumption|(simp[*];done)))<|wo []
 refine w6 ?_
 exact fqI j<|(d.at h (by first|assumption|(simp[*];done))).symm
def Jl (l:QtR):FC prog 95 [(false,[.dat Qq l]),(false,[.clo 96 []])] [] 0 (QJ (lB (l.any (fun a:DAr=>decide (a.2.1= -1))))):=by
 refine Ql func95 rfl rfl ntmps95 fun j g h d o f e=>w6 ?_
 refine lc (dK (QaD l) QmK)<|w4 ?_
 exact fqB g<|WI _ _
def WT (c:Yw)(n:Ua)[∀c,Decidable (SgOk c)][∀n,Decidable (QV n)]:FC prog 31 [(true,[.dat Qj c.1,.dat Qd c.2.1,.dat Qq c.2.2]),(true,[.dat Qj n.1,.dat Zk n.2])] [] 0 (QJ (PV.tup [(false,[dB (decide (GoP c n))]),(false,[dB (decide (SgOk c∧QV n))])])):=by
 refine Ql func31 rfl rfl ntmps31 fun P d O E Q K J=>w_ ?_
 refine xbx 0 ?_
 refine xbx 1 ?_
 refine w6 ?_
 refine lc (dK (UF c) Qq5)<|w2 ?_
 cases f:(decide (SgOk c))
 have h:=ab f
 refine w11 ?_
 have F:(false:Bool)=(decide (GoP c n)):=by
  exact (aj (Qui ‹_›)).symm
 have G:(false:Bool)=(decide (SgOk c∧QV n)):=by
  exact (aj fun g=>absurd g.1 ‹_›).symm
 exact fr_ d (e:=by rw[← F,← G] <;> rfl)
 have h:=aa f
 refine w_ ?_
 refine lgy rfl rfl (dK (Jn n) Qrf)<|w3 ?_
 cases j:(decide (QV n))
 have o:=ab j
 refine w6 ?_
 have H:(false:Bool)=(decide (GoP c n)):=by
  exact (aj (Quj ‹_›)).symm
 have I:(false:Bool)=(decide (SgOk c∧QV n)):=by
  exact (aj fun g=>absurd g.2 ‹_›).symm
 exact fr_ d (e:=by rw[← H,← I] <;> rfl)
 have o:=aa j
 refine w5 ?_
 refine lc (Kg (Jl c.2.2) Qrg ⟨_,_,rfl,(Qm rfl),⟨_,_,rfl,(Evl.ev QsH),rfl⟩⟩ rfl rfl)<|w6 ?_
 cases N:(c.2.2.any (fun a:DAr=>decide (a.2.1= -1)))
 refine w_ ?_
 refine lgy rfl rfl (dK (Qd8 c (by have R:=(by assumption:SgOk c).few;omega) (fun a L=>Qgw ((by assumption:SgOk c).arcs a L).2.2.1)).frozen Qri)<|w4 ?_
 cases r:(decide (((VZ c.2.2 c.2.2.length).length:Int)=0))
 have s:=ab r
 refine w10 ?_
 have y:(false:Bool)=(decide (GoP c n)):=by
  exact (aj (QDe ‹_›)).symm
 have z:(true:Bool)=(decide (SgOk c∧QV n)):=by
  exact (ay ⟨‹_›,‹_›⟩).symm
 exact fr_ d (e:=by rw[← y,← z] <;> rfl)
 have s:=aa r
 refine w4 ?_
 refine lgy rfl rfl (dK (XA c.1 n.1) Qq6)<|w5 ?_
 have A:(decide (c.1=n.1):Bool)=(decide (GoP c n)):=by
  exact bu.2 (QDf ‹_› ‹_› ‹_› ‹_›).symm
 have B:(true:Bool)=(decide (SgOk c∧QV n)):=by
  exact (ay ⟨‹_›,‹_›⟩).symm
 exact fr_ d (e:=by rw[A,← B] <;> rfl)
 refine w16 ?_
 have C:(false:Bool)=(decide (GoP c n)):=by
  exact (aj (QDd ‹_›)).symm
 have D:(true:Bool)=(decide (SgOk c∧QV n)):=by
  exact (ay ⟨‹_›,‹_›⟩).symm
 exact fr_ d (e:=by rw[← C,← D] <;> rfl)
def Kc (c:Yw)(n:Ua)[∀c,Decidable (SgOk c)][∀n,Decidable (QV n)]:FC prog 83 [(true,[.dat Qj c.1,.dat Qd c.2.1,.dat Qq c.2.2]),(true,[.dat Qj n.1,.dat Zk n.2])] [] 0 (QJ (lB (decide (GoP c n)))):=by
 refine Ql func83 rfl rfl ntmps83 fun C d B s D z y=>w_ ?_
 refine xbx 0 ?_
 refine xbx 1 ?_
 refine w4 ?_
 refine lc (dK (YC c) W2)<|w_ ?_
 cases e:(decide (SgOk c))
 have f:=ab e
 refine w16 ?_
 refine w8 ?_
 refine fqB d ?_
 exact (aj (Qui ‹_›)).symm
 have f:=aa e
 refine w_ ?_
 refine lgy rfl rfl (dK (VF n) Qc9)<|w2 ?_
 cases g:(decide (QV n))
 have h:=ab g
 refine w16 ?_
 refine w4 ?_
 refine fqB d ?_
 exact (aj (Quj ‹_›)).symm
 have h:=aa g
 refine w_ ?_
 refine lgy rfl rfl (dK (KI c (fun a r=>Qgw ((by assumption:SgOk c).arcs a r).2.2.1)) QfA)<|w3 ?_
 cases A:(Qdq c)
 refine w_ ?_
 refine lgy rfl rfl (dK (HH c (by have E:=(by assumption:SgOk c).few;omega) (fun a r=>Qgw ((by assumption:SgOk c).arcs a r).2.2.1)).frozen QfB)<|w4 ?_
 cases j:(decide (((VZ c.2.2 c.2.2.length).length:Int)=0))
 have o:=ab j
 refine w9 ?_
 refine fqB d ?_
 exact (aj (QDe ‹_›)).symm
 have o:=aa j
 refine w4 ?_
 refine lgy rfl rfl (dK (J1 c.1 n.1) Qq8)<|w4 ?_
 refine fqB d ?_
 exact bu.2 (QDf ‹_› ‹_› ‹_› ‹_›).symm
 refine w15 ?_
 refine fqB d ?_
 exact (aj (QDd ‹_›)).symm
def JW (c:Yw)(n:Ua)[∀c,Decidable (SgOk c)][∀n,Decidable (QV n)]:FC prog 32 [(true,[.dat Qj c.1,.dat Qd c.2.1,.dat Qq c.2.2]),(true,[.dat Qj n.1,.dat Zk n.2])] [] 0 (QJ (PV.tup [(false,[dB (decide (GoP c n))]),(false,[dB (decide (SgOk c∧QV n))])])):=by
 refine Ql func32 rfl rfl ntmps32 fun F o E r G D C=>w_ ?_
 refine xbx 0 ?_
 refine xbx 1 ?_
 refine w6 ?_
 refine lc (dK (YC c) W2)<|w2 ?_
 cases d:(decide (SgOk c))
 have f:=ab d
 refine w11 ?_
 have s:(false:Bool)=(decide (GoP c n)):=by
  exact (aj (Qui ‹_›)).symm
 have y:(false:Bool)=(decide (SgOk c∧QV n)):=by
  exact (aj fun g=>absurd g.1 ‹_›).symm
 exact fr_ o (e:=by rw[← s,← y] <;> rfl)
 have f:=aa d
 refine w_ ?_
 refine lgy rfl rfl (dK (VF n) Qc9)<|w3 ?_
 cases h:(decide (QV n))
 have j:=ab h
 refine w6 ?_
 have z:(false:Bool)=(decide (GoP c n)):=by
  exact (aj (Quj ‹_›)).symm
 have A:(false:Bool)=(decide (SgOk c∧QV n)):=by
  exact (aj fun g=>absurd g.2 ‹_›).symm
 exact fr_ o (e:=by rw[← z,← A] <;> rfl)
 have j:=aa h
 refine w5 ?_
 refine lc (dK (Kc c n) Qc7)<|w4 ?_
 have B:(true:Bool)=(decide (SgOk c∧QV n)):=by
  exact (ay ⟨‹_›,‹_›⟩).symm
 exact fr_ o (e:=by rw[← B] <;> rfl)
theorem W3 (c:Yw)(n:Ua)[∀c,Decidable (SgOk c)][∀n,Decidable (QV n)]:FC prog 81 [(true,[.dat Qj c.1,.dat Qd c.2.1,.dat Qq c.2.2]),(true,[.dat Qj n.1,.dat Zk n.2])] [] 0 (QJ (PV.tup [(true,[.dat Qj (((Zz c n).1).1),.dat Qd (((Zz c n).1).2.1),.dat Qq (((Zz c n).1).2.2),.dat Qj (((Zz c n).2.1).1),.dat Zk (((Zz c n).2.1).2),.dat Y2 ((Zz c n).2.2)]),(false,[dB (decide (GoP c n))])])):=by
 refine Ql func81 rfl rfl ntmps81 fun O_ X a6 Z X_ a1 a0=>w_ ?_
 refine xbx 0 ?_
 refine xbx 1 ?_
 refine lc (xal 2 Qv9 Qaw)<|w6 ?_
 refine lc (dK (WT c n) QhN)<|w10 ?_
 cases A:(decide (SgOk c∧QV n))
 have B:=ab A
 refine w6 ?_
 refine lc (Qh QiJ rfl (ao.1 rfl) rfl rfl)<|w3 ?_
 refine AC.wk (UP (p:=2) [.dat Qj ([]),.dat Qd ([]),.dat Qq ([]),.dat Qj ([]),.dat Zk ([]),.dat Y2 ([])] rfl ⟨_,_,rfl,.inr ⟨_,_,rfl,rfl⟩,⟨_,_,rfl,.inr ⟨_,_,rfl,rfl⟩,⟨_,_,rfl,.inr ⟨_,_,rfl,rfl⟩,⟨_,_,rfl,.inr ⟨_,_,rfl,rfl⟩,⟨_,_,rfl,.inr ⟨_,_,rfl,rfl⟩,⟨_,_,rfl,.inr ⟨_,_,rfl,rfl⟩,rfl⟩⟩⟩⟩⟩⟩)<|w_ ?_
 have e2:([]:(Qj:Ty).Den)=(((Zz c n).1).1):=by
  exact (UZ (fun g=>absurd (And.intro g.1 g.2.1) ‹_›)).1
 have e3:([]:(Qd:Ty).Den)=(((Zz c n).1).2.1):=by
  exact (UZ (fun g=>absurd (And.intro g.1 g.2.1) ‹_›)).2.1
 have e4:([]:(Qq:Ty).Den)=(((Zz c n).1).2.2):=by
  exact (UZ (fun g=>absurd (And.intro g.1 g.2.1) ‹_›)).2.2.1
 have e5:([]:(Qj:Ty).Den)=(((Zz c n).2.1).1):=by
  exact (UZ (fun g=>absurd (And.intro g.1 g.2.1) ‹_›)).2.2.2.1
 have e6:([]:(Zk:Ty).Den)=(((Zz c n).2.1).2):=by
  exact (UZ (fun g=>absurd (And.intro g.1 g.2.1) ‹_›)).2.2.2.2.1
 have e7:([]:(Y2:Ty).Den)=((Zz c n).2.2):=by
  exact (UZ (fun g=>absurd (And.intro g.1 g.2.1) ‹_›)).2.2.2.2.2.1
 have e8:(false:Bool)=(decide (GoP c n)):=by
  exact (UZ (fun g=>absurd (And.intro g.1 g.2.1) ‹_›)).2.2.2.2.2.2
 exact fr_ X (e:=by rw[← e2,e3,e4,← e5,e6,e7,← e8] <;> rfl)
 have B:=aa A
 refine w4 ?_
 cases C:(decide (GoP c n))
 have D:=ab C
 refine w2 ?_
 refine lc (Qh QiJ rfl (ao.1 rfl) rfl rfl)<|w3 ?_
 refine AC.wk (UP (p:=2) [.dat Qj ([]),.dat Qd ([]),.dat Qq ([]),.dat Qj ([]),.dat Zk ([]),.dat Y2 ([])] rfl ⟨_,_,rfl,.inr ⟨_,_,rfl,rfl⟩,⟨_,_,rfl,.inr ⟨_,_,rfl,rfl⟩,⟨_,_,rfl,.inr ⟨_,_,rfl,rfl⟩,⟨_,_,rfl,.inr ⟨_,_,rfl,rfl⟩,⟨_,_,rfl,.inr ⟨_,_,rfl,rfl⟩,⟨_,_,rfl,.inr ⟨_,_,rfl,rfl⟩,rfl⟩⟩⟩⟩⟩⟩)<|w_ ?_
 have I:([]:(Qj:Ty).Den)=(((Zz c n).1).1):=by
  exact (UZ ‹_›).1
 have J:([]:(Qd:Ty).Den)=(((Zz c n).1).2.1):=by
  exact (UZ ‹_›).2.1
 have K:([]:(Qq:Ty).Den)=(((Zz c n).1).2.2):=by
  exact (UZ ‹_›).2.2.1
 have L:([]:(Qj:Ty).Den)=(((Zz c n).2.1).1):=by
  exact (UZ ‹_›).2.2.2.1
 have N:([]:(Zk:Ty).Den)=(((Zz c n).2.1).2):=by
  exact (UZ ‹_›).2.2.2.2.1
 have O:([]:(Y2:Ty).Den)=((Zz c n).2.2):=by
  exact (UZ ‹_›).2.2.2.2.2.1
 have P:(false:Bool)=(decide (GoP c n)):=by
  exact (UZ ‹_›).2.2.2.2.2.2
 exact fr_ X (e:=by rw[← I,J,K,← L,N,O,← P] <;> rfl)
 have D:=aa C
 refine w2 ?_
 refine Q5 ?_
 have f:=(by assumption:GoP c n)
 have a3:=W7 f
 refine w3 ?_
 refine lc (Qh QiJ ⟨_,_,rfl,(Qm rfl),⟨_,_,rfl,(Qm rfl),rfl⟩⟩ (ao.1 rfl) rfl rfl)<|lc (xal 3 Qv9 Qaw)<|w10 ?_
 refine AC.wk (Qo 4 (p:=3) (off:=5) 62 Qv rfl rfl (Fresh.of rfl) (nlr rfl))<|lp0 c.2.1.length (fun k=>⟨[(2,lP 0 0),(4,lP 2 0),(5,lB false),(8,lP 3 0),(29,lI (c.2.1.length:Int)),(30,lI (k:Int))],[bx 0 28 [.dat Qj c.1,.dat Qd c.2.1,.dat Qq c.2.2],bx 2 121 [.val (.slice none 0 0),.val (.slice none 0 0),.val (.slice none 0 0),.val (.slice none 0 0),.val (.slice none 0 0),.val (.slice none 0 0)],bx 3 121 [.dat Qj c.1,.dat Qd c.2.1,.dat Qq c.2.2,.dat Qj n.1,.dat Zk n.2,.ref 5],(5,some (.arr 62 Qv (List.replicate k (List.replicate c.1.length (-1:Int)))))]⟩) ?_ fun k _=> ?_
 exact wp [(5,4)] ⟨rfl,rfl,rfl,(Qg (rfl)),trivial⟩
 have Y:(List.replicate k (List.replicate c.1.length (-1:Int))).length=k:=aQ ..
 refine w4 ?_
 cases j:(decide ((k:Int)<(c.2.1.length:Int)))
 have r:=ab j
 refine w11 ?_
 refine lp0 c.2.2.length (fun k=>⟨[(4,lP 2 0),(5,lB false),(8,lP 3 0),(44,lf (.dat Qq c.2.2)),(45,lI (c.2.2.length:Int)),(46,lI (k:Int))],[bx 2 121 [.val (.slice none 0 0),.val (.slice none 0 0),.val (.slice none 0 0),.val (.slice none 0 0),.val (.slice none 0 0),.val (.slice none 0 0)],bx 3 121 [.dat Qj c.1,.dat Qd c.2.1,.dat Qq c.2.2,.dat Qj n.1,.dat Zk n.2,.ref 6],(6,some (.arr 62 Qv (QaN c k)))]⟩) ?_ fun k _=> ?_
 exact wp [(6,5)] ⟨rfl,rfl,(Qg ((by unfold QaN;rw[List.take_zero,db];congr 1;omega))),trivial⟩
 refine w4 ?_
 cases o:(decide ((k:Int)<(c.2.2.length:Int)))
 have s:=ab o
 refine w3 ?_
 refine Q5<|AC.wk (QA (p:=3) (off:=5) (q:=6) rfl rfl rfl)<|w6 ?_
 have Q:(c.1:(Qj:Ty).Den)=(((Zz c n).1).1):=by
  exact (Qg3 f).1
 have R:(c.2.1:(Qd:Ty).Den)=(((Zz c n).1).2.1):=by
  exact (Qg3 f).2.1
 have S:(c.2.2:(Qq:Ty).Den)=(((Zz c n).1).2.2):=by
  exact (Qg3 f).2.2.1
 have T:(n.1:(Qj:Ty).Den)=(((Zz c n).2.1).1):=by
  exact (Qg3 f).2.2.2.1
 have U:(n.2:(Zk:Ty).Den)=(((Zz c n).2.1).2):=by
  exact (Qg3 f).2.2.2.2.1
 have V:(QaN c k:(Y2:Ty).Den)=((Zz c n).2.2):=by
  (rw[← (Qg3 f).2.2.2.2.2.1];unfold toM;congr 1;omega)
 have W:(true:Bool)=(decide (GoP c n)):=by
  exact (Qg3 f).2.2.2.2.2.2
 exact fr_ X (e:=by rw[Q,R,S,T,U,V,← W] <;> rfl)
 have s:=aa o
 refine w5 ?_
 obtain ⟨ar,F⟩:=gx c.2.2 k
 have z:=F
 refine w2 ?_
 refine lc (xal 7 Yi Yp)<|w2 ?_
 have a2:=QAI f (ah z)
 have a4:=Qlx (c:=c) (k:=k)
 obtain ⟨H,h⟩:=gx (QaN c k) ((ar.1).toNat)
 have a5:=Qly (c:=c) (k:=k) rfl h
 have y:=Qtv h
 have E:(ar.1).toNat*1+0<(Zh Qv (QaN c k)).length:=by rw[Wn];show (ar.1).toNat*1+0<(QaN c k).length*1;omega
 refine AC.wk (Qab (q:=6) rfl (by omega))<|AC.wk (V1 8 (q:=6) (p:=(ar.1).toNat*1+0) (E':=3) (e':= .int) (ys:=H) rfl (y) (Fresh.of rfl) (aD rfl)) ?_
 obtain ⟨a7,G⟩:=gx H ((ar.2.1).toNat)
 apply dV (i4 50 _ _ _ _ (io 54 (lf (.ept 6 1 ((ar.1).toNat) 0))::io 55 (lR 8)::i4 56 _ _ _ _ [io 60 (lf (.ept 8 1 ((ar.2.1).toNat) 0)),⟨none,lf (.val undef),[(8,some (.arr 3 .int (H.set ((ar.2.1).toNat) ar.2.2.2)))]⟩])) [0,0,3,3,0,0,63,63,255,255,0,0]
 refine z4 ?_
 refine zz (fun _ d=>ac (ZW (d.v rfl) (d.en 6 rfl) (d.v rfl) JA VK rfl (by omega) (by omega)) rfl)<|zz (fun _ d=>ac (Y4 (d.v rfl) (d.n 6 rfl) (show (ovr _ _)[(ar.1).toNat*1+0]? =some (.ref 8) from by simp only[ovr,bp,ax,E,y,dc,if_true,if_false,↓reduceIte]) (d.n 8 rfl) VK rfl) rfl)<|z4 ?_
 exact zz (fun _ d=>ac (Qw (e:= .int) (d.v rfl) (d.en 8 rfl) (d.v rfl) ZX Zv rfl (by omega) (by first|omega|(simp only[ax];omega))) rfl)<|zz (fun _ d=>ac (QO (e:= .int) (z':=ar.2.2.2) (d.v rfl) (d.n 8 rfl) G rfl (d.w rfl) rfl Zv rfl rfl) rfl)<|zN
 refine w_ ?_
 refine AC.wk (Vp (q:=6) (t:=8) (p:=(ar.1).toNat*1+0) rfl (by simp only[ovr,bp,ax,E,y,dc,if_true,if_false,↓reduceIte]) rfl)<|AC.wk (Vo (q:=6) (e:=Qv) ((QaN c k).set (ar.1).toNat (H.set ((ar.2.1).toNat) ar.2.2.2)) rfl (by simp only[ax]) (by simp only[ovr,cM];exact Qfs h))<|w3 ?_
 exact Qc<|l0_<|wp [] ⟨rfl,rfl,(Qg (Qsi z h)),trivial⟩
 have r:=aa j
 refine w4 ?_
 apply dV (i2 32 _ _ [⟨some 34,lR 9,[(9,some (.arr 3 .int ([(-1)])))]⟩,io 35 (lP 0 0),io 36 (lf (.dat Qj c.1)),io 37 (lI (c.1.length:Int)),⟨some 38,lR 10,[(10,some (.arr 3 .int (List.replicate (c.1.length:Int).toNat (-1))))]⟩,⟨some 39,lR 11,[(11,some (.arr 62 Qv ([List.replicate (c.1.length:Int).toNat (-1)]))),(10,none)]⟩,⟨some 40,lR 12,[(12,some (.arr 62 Qv ((List.replicate k (List.replicate c.1.length (-1:Int)))++([List.replicate (c.1.length:Int).toNat (-1)])))),(5,none),(11,none)]⟩,io 41 _,⟨none,lf (.val undef),[bx 3 121 [.dat Qj c.1,.dat Qd c.2.1,.dat Qq c.2.2,.dat Qj n.1,.dat Zk n.2,.ref 12]]⟩]) [0,0,3,7,7,7,3,3,0,0,0]
 refine z2 ?_
 refine zz (fun _ d=>ac (dBs 9 (e:= .int) Ye) rfl)<|z3 ?_
 refine zz (fun _ d=>ac (dOB 10 (X8 ([(-1)]) (c.1.length:Int) (-1) rfl (by omega)) QfH) rfl)<|zz (fun _ d=>ac (YK 11 (e:=Qv) JA VK H6 rfl ⟨_,_,rfl,(d.w rfl),rfl⟩ (ao.1 (by simp only[QH,Xh,aV,bo];rw[(d.en 10 rfl)];rfl)) ⟨_,_,_,_,rfl,(.inl ⟨_,rfl,(d.en 10 rfl),rfl⟩),⟨rfl,rfl⟩,rfl⟩ (by decide) rfl rfl (d.fr 11 rfl) (nlr rfl)) rfl)<|zz (fun _ d=>ac (dA 12 Qc4) rfl)<|z_ ?_
 exact zz (fun _ d=>ac (QR (d.v rfl) (d.en 3 rfl) (d.w rfl) (by simp only[QH,Xh,aV,bo];rw[(d.en 12 rfl)];rfl) QyP rfl) rfl)<|zN
 refine w4 ?_
 exact Qc<|l0_<|wp [(5,12)] ⟨rfl,rfl,rfl,(Qg ((by rw[bW];exact (List.replicate_succ' ..).symm))),trivial⟩
def WD (s:Qmc)(h:GoP s.1 s.2.1):FC prog 85 [(true,[.dat Qj s.1.1,.dat Qd s.1.2.1,.dat Qq s.1.2.2,.dat Qj s.2.1.1,.dat Zk s.2.1.2,.dat Y2 s.2.2])] [] 0 (QJ (ag [dI ((Xs s.1 s.2.1).1),dS ((Xs s.1 s.2.1).2)])):=by
 have j:=W7 h
 refine Ql func85 rfl rfl ntmps85 fun E C D r F B A=>w_ ?_
 refine xbx 0 ?_
 refine lc (xal 1 QM YJ)<|w_ ?_
 obtain ⟨d,o⟩:=gx s.1.2.1 0
 have f:=o
 apply dW (i7 3 _ _ _ _ _ _ _ [io 10 (lf (dS (QbM s.2.1 d))),io 11 (ag [dI 0,dS (QbM s.2.1 d)]),⟨none,lf (.val undef),[bx 1 59 [dI 0,dS (QbM s.2.1 d)]]⟩]) [0,0,3,3,3,3,3,0,0,0]
 refine z7 ?_
 exact zz (fun _ g=>ac (dK (Qga s.2.1 d h.2.1 (by have g:=h.1.codes _ (ah f);rwa [j.2.2.1] at g)) Qmz) rfl)<|zz (fun _ g=>ac (Qh QcW ⟨_,_,rfl,(Evl.ev (Qn rfl)),⟨_,_,rfl,(g.w rfl),rfl⟩⟩ (ao.1 rfl) rfl rfl) rfl)<|y1
 refine w_ ?_
 have y:(0:Int)=((Xs s.1 s.2.1).1):=by
  rfl
 have z:(QbM s.2.1 d:BA)=((Xs s.1 s.2.1).2):=by
  (unfold Xs;rw[ZH f])
 exact fr_ C (e:=by rw[← y,z] <;> rfl)
def Xw (c:Yw)(n:Ua)[∀c,Decidable (SgOk c)][∀n,Decidable (QV n)]:FC prog 25 [(true,[.dat Qj c.1,.dat Qd c.2.1,.dat Qq c.2.2]),(true,[.dat Qj n.1,.dat Zk n.2])] [] 0 (QJ (PV.tup [(true,[dI ((Vu c n).1),dS ((Vu c n).2)]),(false,[dB (decide (GoP c n))])])):=by
 refine Ql func25 rfl rfl ntmps25 fun D g C h E B A=>w_ ?_
 refine xbx 0 ?_
 refine xbx 1 ?_
 refine lc (xal 2 QM YJ)<|w5 ?_
 refine lc (dK (W3 c n) Qc6)<|w3 ?_
 refine lc (xal 3 Qv9 Qaw)<|w8 ?_
 cases d:(decide (GoP c n))
 have f:=ab d
 refine w2 ?_
 refine lc (Qh QcW rfl (ao.1 rfl) rfl rfl)<|w4 ?_
 have j:(0:Int)=((Vu c n).1):=by
  exact (Qh7 ‹_›).1
 have o:(ByteArray.empty:BA)=((Vu c n).2):=by
  exact (Qh7 ‹_›).2.1
 have r:(false:Bool)=(decide (GoP c n)):=by
  exact (Qh7 ‹_›).2.2
 exact fr_ g (e:=by rw[← j,← o,← r] <;> rfl)
 have f:=aa d
 refine w4 ?_
 refine lc (dK (WD (Zz c n) (by rw[QdX ‹_›];assumption)) QhR)<|w4 ?_
 have s:((Xs (Zz c n).1 (Zz c n).2.1).1:Int)=((Vu c n).1):=by
  (rw[QdX ‹_›];exact (Qh8 ‹_›).1)
 have y:((Xs (Zz c n).1 (Zz c n).2.1).2:BA)=((Vu c n).2):=by
  (rw[QdX ‹_›];exact (Qh8 ‹_›).2.1)
 have z:(true:Bool)=(decide (GoP c n)):=by
  exact (Qh8 ‹_›).2.2
 exact fr_ g (e:=by rw[s,y,← z] <;> rfl)
def KF (c:Yw)(n:Ua)(h:GoP c n):FC prog 90 [(true,[.dat Qj c.1,.dat Qd c.2.1,.dat Qq c.2.2]),(true,[.dat Qj n.1,.dat Zk n.2])] [] 0 (QJ (ag [dI ((Xs c n).1),dS ((Xs c n).2)])):=by
 have j:=W7 h
 refine Ql func90 rfl rfl ntmps90 fun D B C r E A z=>w_ ?_
 refine xbx 0 ?_
 refine xbx 1 ?_
 refine lc (xal 2 QM YJ)<|w_ ?_
 obtain ⟨d,o⟩:=gx c.2.1 0
 have f:=o
 apply dW (i5 5 _ _ _ _ _ [io 10 (lf (dS (QbM n d))),io 11 (ag [dI 0,dS (QbM n d)]),⟨none,lf (.val undef),[bx 2 59 [dI 0,dS (QbM n d)]]⟩]) [0,1,1,1,1,0,0,0]
 refine z5 ?_
 exact zz (fun _ g=>ac (dK (Qci n d h.2.1 (by have g:=h.1.codes _ (ah f);rwa [j.2.2.1] at g)) QmG) rfl)<|zz (fun _ g=>ac (Qh QcW ⟨_,_,rfl,(g.w rfl),rfl⟩ (ao.1 rfl) rfl rfl) rfl)<|y1
 refine w_ ?_
 have s:(0:Int)=((Xs c n).1):=by
  rfl
 have y:(QbM n d:BA)=((Xs c n).2):=by
  (unfold Xs;rw[ZH f])
 exact fr_ B (e:=by rw[← s,y] <;> rfl)
def VV (c:Yw)(n:Ua)[∀c,Decidable (SgOk c)][∀n,Decidable (QV n)]:FC prog 29 [(true,[.dat Qj c.1,.dat Qd c.2.1,.dat Qq c.2.2]),(true,[.dat Qj n.1,.dat Zk n.2])] [] 0 (QJ (PV.tup [(true,[dI ((Vu c n).1),dS ((Vu c n).2)]),(false,[dB (decide (GoP c n))])])):=by
 refine Ql func29 rfl rfl ntmps29 fun D g C h E B A=>w_ ?_
 refine xbx 0 ?_
 refine xbx 1 ?_
 refine lc (xal 2 QM YJ)<|w6 ?_
 refine lc (dK (Kc c n) Qc7)<|w2 ?_
 cases d:(decide (GoP c n))
 have f:=ab d
 refine w2 ?_
 refine lc (Qh QcW rfl (ao.1 rfl) rfl rfl)<|w4 ?_
 have j:(0:Int)=((Vu c n).1):=by
  exact (Qh7 ‹_›).1
 have o:(ByteArray.empty:BA)=((Vu c n).2):=by
  exact (Qh7 ‹_›).2.1
 have r:(false:Bool)=(decide (GoP c n)):=by
  exact (Qh7 ‹_›).2.2
 exact fr_ g (e:=by rw[← j,← o,← r] <;> rfl)
 have f:=aa d
 refine w5 ?_
 refine lc (dK (KF c n ‹_›) QhT)<|w4 ?_
 have s:((Xs c n).1:Int)=((Vu c n).1):=by
  exact (Qh8 ‹_›).1
 have y:((Xs c n).2:BA)=((Vu c n).2):=by
  exact (Qh8 ‹_›).2.1
 have z:(true:Bool)=(decide (GoP c n)):=by
  exact (Qh8 ‹_›).2.2
 exact fr_ g (e:=by rw[s,y,← z] <;> rfl)
def Jo (s:Qmc)(b:QkE)(k:Int)(D:GoP s.1 s.2.1)(I:s.2.2=toM s.1)(B:Wm s.1 s.2.1 b)(E:0≤k∧k<(s.2.1.2.length:Int)):FC prog 162 [(true,[.dat Qj s.1.1,.dat Qd s.1.2.1,.dat Qq s.1.2.2,.dat Qj s.2.1.1,.dat Zk s.2.1.2,.dat Y2 s.2.2]),(true,[dI b.1,dS b.2]),(false,[dI k])] [] 0 (QJ (lB (flB s.1 s.2.1 b k.toNat))):=by
 have P:=W7 D
 have R:=Qoi I
 have r:=B.1
 have O:=B.2.1.2
 have d:=D.2.1
 have y:((k.toNat:Nat):Int)=k:=ce E.1
 refine Ql func162 rfl rfl ntmps162 fun U C S K V N L=>acG 1 0 fun _=>acI 2 fun _=>w_ ?_
 refine xbx 0 ?_
 refine xbx 1 ?_
 refine w11 ?_
 refine cd_ (fun _ _=> ?_) fun _ _=> ?_
 refine w6 ?_
 obtain ⟨row,G⟩:=gx s.2.2 ((b.1).toNat)
 obtain ⟨Q,F⟩:=Qv2 D I r G
 refine w3 ?_
 obtain ⟨J,H⟩:=gx row ((k).toNat)
 have j:toF s.1 b.1 (k.toNat:Int)=J:=by rw[ce E.1];exact bD ((F k E.1 (by omega)).symm.trans H)
 refine w4 ?_
 cases e:(decide (0≤J))
 have g:=ab e
 refine w9 ?_
 iterate 6 refine Qf rfl rfl rfl ?_ rfl
 refine w5 ?_
 refine fqB C ?_
 exact QFR (by omega) j ‹_›
 have g:=aa e
 refine w4 ?_
 obtain ⟨T,A⟩:=gx s.2.1.2 ((k).toNat)
 have z:=A
 refine w5 ?_
 cases f:(decide (T.2.1=1))
 have h:=ab f
 refine w5 ?_
 refine lgy rfl rfl (dK (Xq s.2.1 b.2 k d B.2.1 (by omega)) Qbf)<|w5 ?_
 refine fqB C ?_
 (have o:=QFT d (by omega) z j ‹_› ‹_›;rw[y] at o;exact o)
 have h:=aa f
 refine w11 ?_
 refine fqB C ?_
 exact QFS d (by omega) z j ‹_› ‹_›
 refine w6 ?_
 refine lc (dK (Xq s.2.1 b.2 k d B.2.1 (by omega)) Qbf)<|w3 ?_
 refine fqB C ?_
 (have o:=QAA (c:=s.1) (n:=s.2.1) (b:=b) (k:=k.toNat) r.1 (by omega);rw[y] at o;exact o)
def QaF (s:Qmc)(b:QkE)(k:Int)(E:GoP s.1 s.2.1)(G:s.2.2=toM s.1)(z:Wm s.1 s.2.1 b)(f:0≤k∧k<(s.2.1.2.length:Int)):FC prog 163 [(true,[.dat Qj s.1.1,.dat Qd s.1.2.1,.dat Qq s.1.2.2,.dat Qj s.2.1.1,.dat Zk s.2.1.2,.dat Y2 s.2.2]),(true,[dI b.1,dS b.2]),(false,[dI k])] [] 0 (QJ (ag [dI ((flS s.1 s.2.1 b k.toNat).1),dS ((flS s.1 s.2.1 b k.toNat).2)])):=by
 have Q:=W7 E
 have S:=Qoi G
 have B:=z.1
 have P:=z.2.1.2
 have g:((k.toNat:Nat):Int)=k:=ce f.1
 have d:=Qtk z.2.1 f.1 f.2
 have T:b.2.toList.length=b.2.size:=Xp _
 refine Ql func163 rfl rfl ntmps163 fun V F U J W O N=>acG 1 0 fun _=>acI 2 fun _=>w_ ?_
 refine xbx 0 ?_
 refine xbx 1 ?_
 refine lc (xal 2 QM YJ)<|w4 ?_
 refine lc (QbV 3 (Qa rfl) Yd Wq JR rfl (Fresh.of rfl) (nlr rfl))<|w5 ?_
 refine lc (Vj (Qa rfl) rfl (Qa rfl) Wq UA rfl (by omega) (by first|omega|(simp only[ax];omega))) ?_
 obtain ⟨u,o⟩:=gx b.2.toList ((k).toNat)
 have H:=o
 refine lc (Qfb (Qa rfl) rfl o UA rfl)<|lc (QqA (Qa rfl) (QS 1 rfl) rfl)<|lc (Vj (Qa rfl) rfl (Qa rfl) Wq UA rfl (by omega) (by first|omega|(simp only[ax];omega)))<|lc (Ha (Qa rfl) rfl (by first|omega|(simp only[ax];omega)) (Qa rfl) UA)<|w3 ?_
 refine lc (Y5 (ys:=b.2.toList.set ((k).toNat) (u ^^^ 1)) (Qki (Qa rfl) rfl) Wq JR Yd rfl)<|w12 ?_
 refine cd_ (fun _ _=> ?_) fun _ _=> ?_
 refine w6 ?_
 have K:(b.1:Int)=((flS s.1 s.2.1 b k.toNat).1):=by
  exact QAC (by omega)
 have L:((⟨(b.2.toList.set ((k).toNat) (u ^^^ 1)).toArray⟩:BA):BA)=((flS s.1 s.2.1 b k.toNat).2):=by
  (have A:=Qk8 (k:=k.toNat) H (by rw[g];exact d);exact A)
 exact fr_ F (e:=by rw[K,L] <;> rfl)
 refine w5 ?_
 obtain ⟨row,h⟩:=gx s.2.2 ((b.1).toNat)
 obtain ⟨R,C⟩:=Qv2 E G B h
 refine w3 ?_
 obtain ⟨I,j⟩:=gx row ((k).toNat)
 have D:toF s.1 b.1 (k.toNat:Int)=I:=by rw[ce f.1];exact bD ((C k f.1 (by omega)).symm.trans j)
 refine w10 ?_
 have r:(I:Int)=((flS s.1 s.2.1 b k.toNat).1):=by
  exact QxC (by omega) D
 have y:((⟨(b.2.toList.set ((k).toNat) (u ^^^ 1)).toArray⟩:BA):BA)=((flS s.1 s.2.1 b k.toNat).2):=by
  (have A:=Qk8 (k:=k.toNat) H (by rw[g];exact d);exact A)
 exact fr_ F (e:=by rw[← r,y] <;> rfl)
def XT (s:Qmc)(b:QkE)(h:GoP s.1 s.2.1)(j:s.2.2=toM s.1)(g:Wm s.1 s.2.1 b):FC prog 87 [(true,[.dat Qj s.1.1,.dat Qd s.1.2.1,.dat Qq s.1.2.2,.dat Qj s.2.1.1,.dat Zk s.2.1.2,.dat Y2 s.2.2]),(true,[dI b.1,dS b.2])] [] 0 (Is (PV.tup [(false,[.ref 0]),(false,[.ref 1])]) [ar 0 59 QM (YE s.1 s.2.1 b s.2.1.2.length),ar 1 3 .int (X3 s.1 s.2.1 b s.2.1.2.length)]):=by
 have C:=W7 h
 have B:=g.2.1.2
 refine Ql func87 rfl rfl ntmps87 fun H z G o I y r=>w_ ?_
 refine xbx 0 ?_
 refine xbx 1 ?_
 refine w4 ?_
 refine lc (dBs 2 (e:=QM) YJ)<|lc (dBs 3 (e:= .int) Ye)<|w12 ?_
 refine lp0 s.2.1.2.length (fun k=>⟨[(2,lP 0 0),(3,lP 1 0),(4,lf (.val (.slice none 0 0))),(5,lf (.val (.slice none 0 0))),(6,lR 4),(7,lR 5),(14,lI (s.2.1.2.length:Int)),(15,lI (k:Int))],[bx 0 121 [.dat Qj s.1.1,.dat Qd s.1.2.1,.dat Qq s.1.2.2,.dat Qj s.2.1.1,.dat Zk s.2.1.2,.dat Y2 s.2.2],bx 1 59 [dI b.1,dS b.2],ar 4 59 QM (YE s.1 s.2.1 b k),ar 5 3 .int (X3 s.1 s.2.1 b k)]⟩) ?_ fun k _=> ?_
 exact wp [(4,2),(5,3)] ⟨rfl,rfl,(Qg (rfl)),(Qg (rfl)),trivial⟩
 obtain ⟨D,E,F⟩:=WL (c:=s.1) (n:=s.2.1) (b:=b) (m:=k)
 refine w4 ?_
 cases d:(decide ((k:Int)<(s.2.1.2.length:Int)))
 have f:=ab d
 refine w10 ?_
 exact fi_ [(0,4),(1,5)] z ⟨(Qg (by (congr 1;omega))),(Qg (by (congr 1;omega))),trivial⟩
 have f:=aa d
 refine w12 ?_
 refine lc (dK (Jo s b (k:Int) h j g (by omega)) QmB)<|w_ ?_
 cases A:(flB s.1 s.2.1 b (k:Int).toNat)
 refine w6 ?_
 exact Qc<|l0_<|wp [] ⟨rfl,rfl,(Qg ((by first|exact Qg1 ‹_› | exact QdB ‹_› | exact QbN ‹_› | exact QbO ‹_›))),(Qg ((by first|exact Qg1 ‹_› | exact QdB ‹_› | exact QbN ‹_› | exact QbO ‹_›))),trivial⟩
 refine w6 ?_
 refine lc (dK (QaF s b (k:Int) h j g (by omega)) QmC)<|lc (dBs 6 (e:=QM) YJ (hab:=by exact ⟨_,_,_,_,rfl,⟨[dI ((flS s.1 s.2.1 b (k:Int).toNat).1)],[dS ((flS s.1 s.2.1 b (k:Int).toNat).2)],_,_,_,_,rfl,rfl,⟨rfl,rfl⟩,⟨rfl,rfl⟩,rfl⟩,⟨rfl,rfl⟩,rfl⟩))<|lc (dA 7 Qfy)<|w2 ?_
 refine lc (dBs 8 (e:= .int) Ye)<|lc (dA 9 Xg)<|w2 ?_
 refine Qc<|w4 ?_
 exact Qc<|l0_<|wp [(4,7),(5,9)] ⟨rfl,rfl,(Qg ((by first|exact Qg1 ‹_› | exact QdB ‹_› | exact QbN ‹_› | exact QbO ‹_›))),(Qg ((by first|exact Qg1 ‹_› | exact QdB ‹_› | exact QbN ‹_› | exact QbO ‹_›))),trivial⟩
def UG (s:Qmc)(b:QkE)(E:GoP s.1 s.2.1)(I:s.2.2=toM s.1)(D:Wm s.1 s.2.1 b):FC prog 114 [(true,[.dat Qj s.1.1,.dat Qd s.1.2.1,.dat Qq s.1.2.2,.dat Qj s.2.1.1,.dat Zk s.2.1.2,.dat Y2 s.2.2]),(true,[dI b.1,dS b.2])] [] 0 (WB 3 .int (Xi s.1 s.2.1 b s.2.1.2.length)):=by
 have R:=W7 E
 have W:=Qoi I
 have o:=D.1
 have Q:=D.2.1.2
 have d:=E.2.1
 refine Ql func114 rfl rfl ntmps114 fun Y P X L Z O N=>acG 1 0 fun _=>w_ ?_
 refine xbx 0 ?_
 refine xbx 1 ?_
 refine w3 ?_
 refine lc (dBs 2 (e:= .int) Ye)<|w11 ?_
 refine lp0 s.2.1.1.length (fun k=>⟨[(2,lP 0 0),(3,lP 1 0),(4,lf (.val (.slice none 0 0))),(5,lR 3),(11,lI (s.2.1.1.length:Int)),(12,lI (k:Int))],[bx 0 121 [.dat Qj s.1.1,.dat Qd s.1.2.1,.dat Qq s.1.2.2,.dat Qj s.2.1.1,.dat Zk s.2.1.2,.dat Y2 s.2.2],bx 1 59 [dI b.1,dS b.2],ar 3 3 .int (Xi s.1 s.2.1 b k)]⟩) ?_ fun k _=> ?_
 exact wp [(3,2)] ⟨rfl,rfl,(Qg (rfl)),trivial⟩
 obtain ⟨S,T,U⟩:=WL (c:=s.1) (n:=s.2.1) (b:=b) (m:=k)
 refine w4 ?_
 cases r:(decide ((k:Int)<(s.2.1.1.length:Int)))
 have y:=ab r
 refine w8 ?_
 refine fo_ P ?_
 first|(rw[← Qwi (m:=s.2.1.2.length) o.1 (by omega)];congr 1;omega)
 have y:=aa r
 refine w13 ?_
 obtain ⟨H,G⟩:=gx s.2.1.2 k
 have g:=G
 refine w5 ?_
 cases z:(!decide (H.2.1=1))
 have A:(H.2.1=1):=QB z
 refine w16 ?_
 refine w10 ?_
 exact Qc<|l0_<|wp [] ⟨rfl,rfl,(Qg ((by first|exact Qhc ((QlF d (by omega) g f ‹_› ‹_›).trans ‹_›)|exact XL (QyY d (by omega) g ‹_›)|exact XL (QyZ (by omega) f ‹_›)|exact XL ((QlF d (by omega) g f ‹_› ‹_›).trans ‹_›)))),trivial⟩
 have A:¬(H.2.1=1):=QL z
 refine w4 ?_
 obtain ⟨row,B⟩:=gx s.2.2 ((b.1).toNat)
 obtain ⟨V,F⟩:=Qv2 E I o B
 refine w3 ?_
 obtain ⟨K,C⟩:=gx row k
 have f:toF s.1 b.1 (k:Int)=K:=bD ((F (k:Int) (by omega) (by omega)).symm.trans C)
 refine w5 ?_
 cases h:(decide (K<0))
 have j:=ab h
 refine w14 ?_
 exact Qc<|l0_<|wp [] ⟨rfl,rfl,(Qg ((by first|exact Qhc ((QlF d (by omega) g f ‹_› ‹_›).trans ‹_›)|exact XL (QyY d (by omega) g ‹_›)|exact XL (QyZ (by omega) f ‹_›)|exact XL ((QlF d (by omega) g f ‹_› ‹_›).trans ‹_›)))),trivial⟩
 have j:=aa h
 refine w5 ?_
 refine lgy rfl rfl (dK (Xq s.2.1 b.2 (k:Int) d D.2.1 (by omega)) Qbf)<|w2 ?_
 cases J:(exW s.2.1 b.2 (k:Int))
 refine w6 ?_
 exact Qc<|l0_<|wp [] ⟨rfl,rfl,(Qg ((by first|exact Qhc ((QlF d (by omega) g f ‹_› ‹_›).trans ‹_›)|exact XL (QyY d (by omega) g ‹_›)|exact XL (QyZ (by omega) f ‹_›)|exact XL ((QlF d (by omega) g f ‹_› ‹_›).trans ‹_›)))),trivial⟩
 refine w4 ?_
 refine lc (dBs 4 (e:= .int) Ye)<|lc (dA 5 Xg)<|w_ ?_
 refine Qc<|w4 ?_
 exact Qc<|l0_<|wp [(3,5)] ⟨rfl,rfl,(Qg ((by first|exact Qhc ((QlF d (by omega) g f ‹_› ‹_›).trans ‹_›)|exact XL (QyY d (by omega) g ‹_›)|exact XL (QyZ (by omega) f ‹_›)|exact XL ((QlF d (by omega) g f ‹_› ‹_›).trans ‹_›)))),trivial⟩
def Jp (s:Qmc)(b:QkE)(z:GoP s.1 s.2.1):FC prog 86 [(true,[.dat Qj s.1.1,.dat Qd s.1.2.1,.dat Qq s.1.2.2,.dat Qj s.2.1.1,.dat Zk s.2.1.2,.dat Y2 s.2.2]),(true,[dI b.1,dS b.2])] [] 0 (QJ (lB (decide (Wm s.1 s.2.1 b)))):=by
 have D:=W7 z
 refine Ql func86 rfl rfl ntmps86 fun F j E A G C B=>acG 1 0 fun _=>w_ ?_
 refine xbx 0 ?_
 refine xbx 1 ?_
 refine w2 ?_
 cases d:(decide (0≤b.1∧b.1≤((s.1.2.1.length:Int) - 1)))
 have g:=ab d
 apply dW (i7 5 _ _ _ _ _ _ _ (io 12 (lB false)::i9 13 _ _ _ _ _ _ _ _ _ (i9 22 _ _ _ _ _ _ _ _ _ (i3 31 _ _ _ [io 4 _])))) [0,0,3,3,3,3,3,0,0,0,0,1536,1536,1536,1536,0,0,0,0,0,786432,786432,786432,8126464,8126464,786432,786432,0,0,0]
 refine z7 ?_
 refine zz (fun _ f=>ac (Qz (d) (dK (QE b.1 0 ((s.1.2.1.length:Int) - 1)) Za)) rfl)<|z16 ?_
 exact y6
 refine w_ ?_
 refine fqB j ?_
 exact (aj (QD1 ‹_›)).symm
 have g:=aa d
 cases e:(decide (Q7 b.2 (s.2.1.2.length:Int)))
 have h:=ab e
 apply dW (i7 5 _ _ _ _ _ _ _ (io 12 (lB true)::i7 13 _ _ _ _ _ _ _ (io 20 (lB false)::i9 21 _ _ _ _ _ _ _ _ _ (i4 30 _ _ _ _ [io 4 _])))) [0,0,3,3,3,3,3,0,0,0,0,1536,1536,1536,1536,0,0,0,0,0,786432,786432,786432,8126464,8126464,786432,786432,0,0,0]
 refine z7 ?_
 refine zz (fun _ f=>ac (Qz (d) (dK (QE b.1 0 ((s.1.2.1.length:Int) - 1)) Za)) rfl)<|z7 ?_
 exact zz (fun _ f=>day rfl (f.k rfl) (Qz (e) (dK (Uh b.2 (s.2.1.2.length:Int)) Qba)) rfl)<|y14
 refine w_ ?_
 refine fqB j ?_
 exact (aj (QD2 ‹_›)).symm
 have h:=aa e
 obtain ⟨y,r⟩:=gx s.1.2.1 ((b.1).toNat)
 have o:=r
 apply dW (i7 5 _ _ _ _ _ _ _ (io 12 (lB true)::i7 13 _ _ _ _ _ _ _ (io 20 (lB true)::i9 21 _ _ _ _ _ _ _ _ _ (i2 30 _ _ [io 32 (lB (Qn9 b.2 y)),io 33 _,io 4 _])))) [0,0,3,3,3,3,3,0,0,0,0,1536,1536,1536,1536,0,0,0,0,0,786432,786432,786432,8126464,8126464,786432,786432,0,0,0]
 refine z7 ?_
 refine zz (fun _ f=>ac (Qz (d) (dK (QE b.1 0 ((s.1.2.1.length:Int) - 1)) Za)) rfl)<|z7 ?_
 refine zz (fun _ f=>day rfl (f.k rfl) (Qz (e) (dK (Uh b.2 (s.2.1.2.length:Int)) Qba)) rfl)<|z11 ?_
 exact zz (fun _ f=>day rfl (f.k rfl) (dK (HI b.2 y) QmA) rfl)<|y2
 refine w_ ?_
 refine fqB j ?_
 exact QD3 z ‹_› ‹_› o
end Go.Proofs.YtjfpbcmfbnnooaaGreat
