import Derived.Test.YtjfpbcmfbnnooaaGreatPHe
set_option linter.all false
namespace Go.Proofs.YtjfpbcmfbnnooaaGreat
open Go.RowKit Tryz
set_option maxRecDepth 100000
set_option maxHeartbeats 4000000
def Qer (c:DSg)(sig:Int)(way:BA)(k:Int):Bool×Bool:=
 if way=⟨#[100,111,119,110]⟩ then (Zq c k sig&&decide (bAt (ZP c k) sig=49),!(Zq c k sig==decide (bAt (ZP c k) sig=49)))
 else if way=⟨#[117,112]⟩ then (Zq c k sig&& !decide (bAt (ZP c k) sig=49),Zq c k sig==decide (bAt (ZP c k) sig=49))
 else (!(Zq c k sig==decide (bAt (ZP c k) sig=49)),Zq c k sig==decide (bAt (ZP c k) sig=49))
abbrev wOn (c:DSg)(sig:Int)(way:BA)(k:Int):Bool:=(Qer c sig way k).1
abbrev wOf (c:DSg)(sig:Int)(way:BA)(k:Int):Bool:=(Qer c sig way k).2
section
variable {c:DSg}{f g:Int→Bool}{k j:Nat}{w x s way:BA}{u:UInt8}{sig q m:Int}{l o:List BA}
def Qvp (h:UK l x=true):l.Pairwise (fun a b=>ltB a b=true)→l=Zc ltB x l:=fun v=>by
 obtain ⟨i,d⟩:=aG.1 (Qdp.1 h)
 refine (Qdx (k:=i) (fun j t y z=> ?_) d (W9.irr x)).symm
 obtain ⟨p,e⟩:=ae.1 z
 obtain ⟨r,n⟩:=ae.1 d
 rw[← e,← n]
 exact List.pairwise_iff_getElem.1 v _ _ p r t
def Qvh (a:UK l x=false)(i:∀j:Nat,(j:Int)<m→∀y,l[j]? =some y→ltB y x=true)(h0:0≤m)(d:m≤(l.length:Int))(h:∀y,l[m.toNat]? =some y→ltB y x=false):l.take m.toNat++[x]++l.drop m.toNat=Zc ltB x l:=
 QD0 i h0 d fun y b=>⟨h y b,fun e=>by subst e;rw[Qdp.2 (ah b)] at a;cases a⟩
def QdV (h:c.2.1[k]? =some w)(a:f (k:Int)=true):Zc ltB w (ofG ltB (pkL c f k))=ofG ltB (pkL c f (k+1)):=by rw[← QGr h a];exact Qvb
def QdU (a:f (k:Int)=false):ofG ltB (pkL c f k)=ofG ltB (pkL c f (k+1)):=by rw[QGq a]
def QpN:(ofG ltB (pkL c f k)).length≤k:=by
 have a:(ofG ltB (pkL c f k)).Nodup:=(Ve W9 _).imp fun h e=>by subst e;rw[W9.irr] at h;cases h
 have b:=Qdv a fun x d=>(Qan W9 _).1 d
 exact bi b QBo
end
def Hz (l:List BA)(x:BA)(N:l.length≤900000000)(A:UK l x=false):FC prog 312 [(false,[.dat Qd l]),(false,[dS x])] [] 0 (QJ (lf (.dat Qd (Zc ltB x l)))):=by
 refine Ql func312 rfl rfl ntmps312 fun K t J E L G F=>w8 ?_
 refine Qy (fun B C=>∃(m:Int),B=((l.length:Int) - m).toNat∧(0≤m∧m≤(l.length:Int))∧(∀j:Nat,(j:Int)<m→∀y,l[j]? =some y→ltB y x=true)∧C=⟨[(0,lf (.dat Qd l)),(1,lf (dS x)),(4,lf (.val (.slice none 0 0))),(5,lI m)],[]⟩) ⟨0,rfl,(by omega),(fun j M=>by omega),rfl⟩ ?_ ?_
 exact wo []
 rintro B C ⟨m,I,O,p,rfl⟩
 refine w7 ?_
 cases b:(decide (m<(l.length:Int)))
 have d:=ab b
 refine w11 ?_
 apply dW (i2 20 _ _ [io 22 (lf (.dat Qd ((l.take (m).toNat).drop 0))),⟨some 23,lR 0,[ar 0 9 .str ((l.take (m).toNat).drop 0)]⟩,io 24 (lf (dS x)),⟨some 25,lR 1,[ar 1 9 .str ([x])]⟩,⟨some 26,lR 2,[ar 2 9 .str (((l.take (m).toNat).drop 0)++([x])),(0,none),(1,none)]⟩,io 27 (lf (.dat Qd l)),io 28 (lI m),io 29 (lf (.dat Qd ((l.take l.length).drop (m).toNat))),⟨some 30,lR 3,[ar 3 9 .str ((((l.take (m).toNat).drop 0)++([x]))++((l.take l.length).drop (m).toNat)),(2,none)]⟩,io 4 _]) [0,1,0,0,15,15,0,127,255,127,0,0]
 refine z2 ?_
 refine zz (fun _ a=>ac (Ws (l:=none) (h:=(some m)) (a.v rfl) (by exact trivial) (by exact (a.v rfl)) Vd Wv rfl (by simp only[aq,ap];omega) (by simp only[aq,ap];omega) (by simp only[aq,ap];omega)) rfl)<|zz (fun _ a=>ac (dO 0 (Uq ((l.take (m).toNat).drop 0) (by simp only[au,aX];omega)) Qbm) rfl)<|z_ ?_
 refine zz (fun _ a=>ac (dBs 1 (e:= .str) Wd) rfl)<|zz (fun _ a=>ac (dA 2 Ub (hb:=by (simp only[ai,au,aX,av,aB];omega))) rfl)<|z2 ?_
 exact zz (fun _ a=>ac (Ws (l:=(some m)) (h:=none) (a.v rfl) (by exact (a.v rfl)) (by exact trivial) Vd Wv rfl (by simp only[aq,ap];omega) (by simp only[aq,ap];omega) (by simp only[aq,ap];omega)) rfl)<|zz (fun _ a=>ac (Zg 3 (a.v rfl) (a.en 2 rfl) (Evl.rep (a.v rfl)) rfl Vd Ub (by (simp only[ai,au,aX,av,aB];omega)) rfl (a.fr 3 rfl) (nlr rfl)) rfl)<|y1
 refine AC.wk (Wk.freeze (i:=4) (q:=3) rfl rfl)<|w_ ?_
 refine fq_ t ?_
 (rw[dH,dN];exact Qvh A p (by omega) (by omega) (fun z n=>by rw[bt (by omega)] at n;cases n))
 have d:=aa b
 refine w2 ?_
 obtain ⟨y,r⟩:=gx l ((m).toNat)
 have D:=r
 refine w3 ?_
 refine lgy rfl rfl (Qhx (Qa rfl) (Qa rfl) rfl)<|w2 ?_
 cases H:(Op.bytesLess y.toList x.toList)
 refine w3 ?_
 apply dW (i2 20 _ _ [io 22 (lf (.dat Qd ((l.take (m).toNat).drop 0))),⟨some 23,lR 4,[ar 4 9 .str ((l.take (m).toNat).drop 0)]⟩,io 24 (lf (dS x)),⟨some 25,lR 5,[ar 5 9 .str ([x])]⟩,⟨some 26,lR 6,[ar 6 9 .str (((l.take (m).toNat).drop 0)++([x])),(4,none),(5,none)]⟩,io 27 (lf (.dat Qd l)),io 28 (lI m),io 29 (lf (.dat Qd ((l.take l.length).drop (m).toNat))),⟨some 30,lR 7,[ar 7 9 .str ((((l.take (m).toNat).drop 0)++([x]))++((l.take l.length).drop (m).toNat)),(6,none)]⟩,io 4 _]) [0,1,0,0,15,15,0,127,255,127,0,0]
 refine z2 ?_
 refine zz (fun _ a=>ac (Ws (l:=none) (h:=(some m)) (a.v rfl) (by exact trivial) (by exact (a.v rfl)) Vd Wv rfl (by simp only[aq,ap];omega) (by simp only[aq,ap];omega) (by simp only[aq,ap];omega)) rfl)<|zz (fun _ a=>ac (dO 4 (Uq ((l.take (m).toNat).drop 0) (by simp only[au,aX];omega)) Qbm) rfl)<|z_ ?_
 refine zz (fun _ a=>ac (dBs 5 (e:= .str) Wd) rfl)<|zz (fun _ a=>ac (dA 6 Ub (hb:=by (simp only[ai,au,aX,av,aB];omega))) rfl)<|z2 ?_
 exact zz (fun _ a=>ac (Ws (l:=(some m)) (h:=none) (a.v rfl) (by exact (a.v rfl)) (by exact trivial) Vd Wv rfl (by simp only[aq,ap];omega) (by simp only[aq,ap];omega) (by simp only[aq,ap];omega)) rfl)<|zz (fun _ a=>ac (Zg 7 (a.v rfl) (a.en 6 rfl) (Evl.rep (a.v rfl)) rfl Vd Ub (by (simp only[ai,au,aX,av,aB];omega)) rfl (a.fr 7 rfl) (nlr rfl)) rfl)<|y1
 refine AC.wk (Wk.freeze (i:=4) (q:=7) rfl rfl)<|w_ ?_
 refine fq_ t ?_
 (rw[dH,dN];exact Qvh A p (by omega) (by omega) (fun z n=>by rw[D] at n;cases n;assumption))
 refine w7 ?_
 exact Qc<|Zb ⟨(m+1),rfl,(by omega),(Qyc p D ‹_›),rfl⟩ (by omega)<|wo []
def Ul (l:List BA)(x:BA)(v:l.length≤900000000)(n:l.Pairwise fun a b=>ltB a b=true):FC prog 306 [(false,[.dat Qd l]),(false,[dS x])] [] 0 (QJ (lf (.dat Qd (Zc ltB x l)))):=by
 refine Ql func306 rfl rfl ntmps306 fun r d p e t i h=>w7 ?_
 refine lc (dK (HE l x) QfZ)<|w_ ?_
 refine cb_ (fun _=> ?_) fun _=> ?_
 refine w4 ?_
 refine lc (dK (Hz l x (by omega) ‹_›) Qf1)<|w3 ?_
 exact fe_ d
 refine w5 ?_
 exact fq_ d<|Qvp ‹_› n
section
variable {c:DSg}{k:Nat}{w way code:BA}{u:UInt8}{sig q n:Int}{l:List BA}
def Vz (c:DSg)(sig:Int)(way:BA):DOn:=QyA c (wOn c sig way) (wOf c sig way)
def Zn (c:DSg)(sig:Int)(way:BA):Prop:=(SgOk c∧(0≤sig∧sig≤(c.1.length:Int) - 1)∧Ya c sig=false)∧QsR c (wOn c sig way) (wOf c sig way)
instance [∀c,Decidable (SgOk c)] (c:DSg) (sig:Int) (way:BA):Decidable (Zn c sig way):=inferInstanceAs (Decidable (_∧_))
abbrev Zp:BA:=⟨#[110,101,120,116]⟩
end
theorem Qeb (c:Yw)(sig:Int)(way:BA)(I:SgOk c)(hg:0≤sig∧sig≤(c.1.length:Int) - 1):FC prog 264 [(true,[.dat Qj c.1,.dat Qd c.2.1,.dat Qq c.2.2]),(false,[dI sig]),(false,[dS way])] [] 0 (QJ (ag [.dat Qd ((Vz c sig way).1),.dat Qd ((Vz c sig way).2)])):=by
 have a0:=I.some_
 have h8:=I.sigs.2.2
 refine Ql func264 rfl rfl ntmps264 fun O_ X a2 Q X_ U T=>acI 1 fun _=>w_ ?_
 refine xbx 0 ?_
 refine lc (xal 1 QcG Ke)<|w2 ?_
 refine lc (xal 2 QcG Ke)<|w9 ?_
 refine AC.wk (UP (p:=2) [.dat Qd ([]),.val (.slice none 0 0)] rfl ⟨_,_,rfl,.inr ⟨_,_,rfl,rfl⟩,⟨_,_,rfl,.inl rfl,rfl⟩⟩)<|AC.wk (UP (p:=2) [.dat Qd ([]),.dat Qd ([])] rfl ⟨_,_,rfl,.inl rfl,⟨_,_,rfl,.inr ⟨_,_,rfl,rfl⟩,rfl⟩⟩)<|Qy (fun P G=>∃(k:Nat) (j:List BA) (i:List BA),k≤c.2.1.length∧P=c.2.1.length - k∧(j=ofG ltB (pkL c (wOn c sig way) k))∧(i=ofG ltB (pkL c (wOf c sig way) k))∧G=⟨[(1,lI sig),(2,lf (dS way)),(3,lP 0 0),(6,lP 1 0),(7,lP 2 0),(15,lf (.dat Qd c.2.1)),(16,lI (c.2.1.length:Int)),(17,lI (k:Int))],[bx 0 28 [.dat Qj c.1,.dat Qd c.2.1,.dat Qq c.2.2],bx 1 98 [.val (.slice none 0 0),.val (.slice none 0 0)],bx 2 98 [.dat Qd j,.dat Qd i]]⟩) ⟨0,([]:(Qd:Ty).Den),([]:(Qd:Ty).Den),aL _,rfl,rfl,rfl,rfl⟩ ?_ ?_
 exact wo []
 rintro P G ⟨k,j,i,Y,Z,b,d,rfl⟩
 have V:j.length≤k:=by rw[b];exact QpN
 have W:i.length≤k:=by rw[d];exact QpN
 refine w4 ?_
 cases B:(decide ((k:Int)<(c.2.1.length:Int)))
 have C:=ab B
 refine w8 ?_
 have R:(j:(Qd:Ty).Den)=((Vz c sig way).1):=by
  (rw[b,show k=c.2.1.length by omega];rfl)
 have S:(i:(Qd:Ty).Den)=((Vz c sig way).2):=by
  (rw[d,show k=c.2.1.length by omega];rfl)
 exact fr_ X (e:=by rw[R,S] <;> rfl)
 have C:=aa B
 refine w6 ?_
 obtain ⟨w,E⟩:=gx c.2.1 k
 have m:=E
 have a1:=(I.codes _ (ah E)).2
 refine w5 ?_
 obtain ⟨u,D⟩:=gs w ((sig).toNat)
 have a:decide (bAt (ZP c (k:Int)) sig=49)=decide (u=49):=by rw[ZH m,QU D]
 apply dW (i3 22 _ _ _ (io 25 (lB (decide (u=49)))::i3 26 _ _ _ (io 29 (lB (Zq c (k:Int) sig))::i2 10 _ _ []))) [0,1,0,0,15,31,63,15,0,0]
 refine z3 ?_
 refine zz (fun _ J=>ac (Zf (J.v rfl) (QS 49 rfl) rfl) rfl)<|z3 ?_
 exact zz (fun _ J=>ac (dK (Zo c (k:Int) sig) XN) rfl)<|y2
 refine Qj6 (fun G=>∃(H:Bool) (F:Bool),(wOn c sig way (k:Int)=H)∧(wOf c sig way (k:Int)=F)∧G=⟨[(1,lI sig),(2,lf (dS way)),(3,lP 0 0),(6,lP 1 0),(7,lP 2 0),(9,lf (dS w)),(12,lB H),(13,lB F),(15,lf (.dat Qd c.2.1)),(16,lI (c.2.1.length:Int)),(17,lI (k:Int))],[bx 0 28 [.dat Qj c.1,.dat Qd c.2.1,.dat Qq c.2.2],bx 1 98 [.val (.slice none 0 0),.val (.slice none 0 0)],bx 2 98 [.dat Qd j,.dat Qd i]]⟩) ?_ fun h=> ?_
 rintro G ⟨H,F,g,f,rfl⟩
 refine w4 ?_
 cases K:(H)
 refine w5 ?_
 cases L:(F)
 refine w6 ?_
 exact Qc<|Zb ⟨k+1,j,i,by omega,rfl,(by rw[b];first|exact absurd (by assumption:(true==true)=false) (by decide)|exact absurd (by assumption:(false==false)=false) (by decide)|exact absurd (by assumption:(true==false)=true) (by decide)|exact absurd (by assumption:(false==true)=true) (by decide)|exact QdV m (by rw[g];first|done|(simp[*];done))|exact QdU (by rw[g];first|done|(simp[*];done))),(by rw[d];first|exact absurd (by assumption:(true==true)=false) (by decide)|exact absurd (by assumption:(false==false)=false) (by decide)|exact absurd (by assumption:(true==false)=true) (by decide)|exact absurd (by assumption:(false==true)=true) (by decide)|exact QdV m (by rw[f];first|done|(simp[*];done))|exact QdU (by rw[f];first|done|(simp[*];done))),rfl⟩ (by omega)<|wo []
 refine w5 ?_
 refine lc (dK (Ul i w (by omega) (by first|(rw[b];exact Ve W9 _)|(rw[d];exact Ve W9 _))) Qbp)<|w2 ?_
 refine Qc<|w4 ?_
 exact Qc<|Zb ⟨k+1,j,(Zc ltB w i),by omega,rfl,(by rw[b];first|exact absurd (by assumption:(true==true)=false) (by decide)|exact absurd (by assumption:(false==false)=false) (by decide)|exact absurd (by assumption:(true==false)=true) (by decide)|exact absurd (by assumption:(false==true)=true) (by decide)|exact QdV m (by rw[g];first|done|(simp[*];done))|exact QdU (by rw[g];first|done|(simp[*];done))),(by rw[d];first|exact absurd (by assumption:(true==true)=false) (by decide)|exact absurd (by assumption:(false==false)=false) (by decide)|exact absurd (by assumption:(true==false)=true) (by decide)|exact absurd (by assumption:(false==true)=true) (by decide)|exact QdV m (by rw[f];first|done|(simp[*];done))|exact QdU (by rw[f];first|done|(simp[*];done))),rfl⟩ (by omega)<|wo []
 refine w5 ?_
 refine lc (dK (Ul j w (by omega) (by first|(rw[b];exact Ve W9 _)|(rw[d];exact Ve W9 _))) Qbp)<|w6 ?_
 cases M:(F)
 refine w6 ?_
 exact Qc<|Zb ⟨k+1,(Zc ltB w j),i,by omega,rfl,(by rw[b];first|exact absurd (by assumption:(true==true)=false) (by decide)|exact absurd (by assumption:(false==false)=false) (by decide)|exact absurd (by assumption:(true==false)=true) (by decide)|exact absurd (by assumption:(false==true)=true) (by decide)|exact QdV m (by rw[g];first|done|(simp[*];done))|exact QdU (by rw[g];first|done|(simp[*];done))),(by rw[d];first|exact absurd (by assumption:(true==true)=false) (by decide)|exact absurd (by assumption:(false==false)=false) (by decide)|exact absurd (by assumption:(true==false)=true) (by decide)|exact absurd (by assumption:(false==true)=true) (by decide)|exact QdV m (by rw[f];first|done|(simp[*];done))|exact QdU (by rw[f];first|done|(simp[*];done))),rfl⟩ (by omega)<|wo []
 refine w5 ?_
 refine lc (dK (Ul i w (by omega) (by first|(rw[b];exact Ve W9 _)|(rw[d];exact Ve W9 _))) Qbp)<|w2 ?_
 refine Qc<|w4 ?_
 exact Qc<|Zb ⟨k+1,(Zc ltB w j),(Zc ltB w i),by omega,rfl,(by rw[b];first|exact absurd (by assumption:(true==true)=false) (by decide)|exact absurd (by assumption:(false==false)=false) (by decide)|exact absurd (by assumption:(true==false)=true) (by decide)|exact absurd (by assumption:(false==true)=true) (by decide)|exact QdV m (by rw[g];first|done|(simp[*];done))|exact QdU (by rw[g];first|done|(simp[*];done))),(by rw[d];first|exact absurd (by assumption:(true==true)=false) (by decide)|exact absurd (by assumption:(false==false)=false) (by decide)|exact absurd (by assumption:(true==false)=true) (by decide)|exact absurd (by assumption:(false==true)=true) (by decide)|exact QdV m (by rw[f];first|done|(simp[*];done))|exact QdU (by rw[f];first|done|(simp[*];done))),rfl⟩ (by omega)<|wo []
 refine w3 ?_
 refine lc (ZG (Qa rfl) (Qa rfl) rfl YY)<|w2 ?_
 refine lc (Wr (Qa rfl) (Qa rfl) rfl YY)<|w8 ?_
 cases o:(decide (way=(⟨#[117,112]⟩:BA)))
 have x:=ab o
 refine w7 ?_
 cases r:(decide (way=(⟨#[100,111,119,110]⟩:BA)))
 have y:=ab r
 refine w2 ?_
 exact Yf (h _ ⟨(!((Zq c (k:Int) sig)==(decide (u=49)))),((Zq c (k:Int) sig)==(decide (u=49))),(by (simp only[wOn,wOf,Qer,a];simp[*];done)),(by (simp only[wOn,wOf,Qer,a];simp[*];done)),rfl⟩)<|wo []
 have y:=aa r
 refine w4 ?_
 cases N:(Zq c (k:Int) sig)
 refine w4 ?_
 refine lc (ZG (Qa rfl) (Qa rfl) rfl YY)<|w3 ?_
 exact Yf (h _ ⟨false,(!(false==(decide (u=49)))),(by (simp only[wOn,wOf,Qer,a];simp[*];done)),(by (simp only[wOn,wOf,Qer,a];simp[*];done)),rfl⟩)<|wo []
 refine w4 ?_
 refine lc (ZG (Qa rfl) (Qa rfl) rfl YY)<|w3 ?_
 exact Yf (h _ ⟨(decide (u=49)),(!(true==(decide (u=49)))),(by (simp only[wOn,wOf,Qer,a];simp[*];done)),(by (simp only[wOn,wOf,Qer,a];simp[*];done)),rfl⟩)<|wo []
 have x:=aa o
 refine w4 ?_
 cases O:(Zq c (k:Int) sig)
 refine w5 ?_
 refine lc (Wr (Qa rfl) (Qa rfl) rfl YY)<|w8 ?_
 cases s:(decide (way=(⟨#[100,111,119,110]⟩:BA)))
 have z:=ab s
 refine w2 ?_
 exact Yf (h _ ⟨false,(false==(decide (u=49))),(by (simp only[wOn,wOf,Qer,a];simp[*];done)),(by (simp only[wOn,wOf,Qer,a];simp[*];done)),rfl⟩)<|wo []
 have z:=aa s
 refine w8 ?_
 refine lc (ZG (Qa rfl) (Qa rfl) rfl YY)<|w3 ?_
 exact Yf (h _ ⟨false,(!(false==(decide (u=49)))),(by exact absurd ((by assumption:way=⟨#[117,112]⟩).symm.trans (by assumption:way=⟨#[100,111,119,110]⟩)) (by decide)),(by exact absurd ((by assumption:way=⟨#[117,112]⟩).symm.trans (by assumption:way=⟨#[100,111,119,110]⟩)) (by decide)),rfl⟩)<|wo []
 refine w5 ?_
 refine lc (Wr (Qa rfl) (Qa rfl) rfl YY)<|w8 ?_
 cases t:(decide (way=(⟨#[100,111,119,110]⟩:BA)))
 have A:=ab t
 refine w2 ?_
 exact Yf (h _ ⟨(!(decide (u=49))),(true==(decide (u=49))),(by (simp only[wOn,wOf,Qer,a];simp[*];done)),(by (simp only[wOn,wOf,Qer,a];simp[*];done)),rfl⟩)<|wo []
 have A:=aa t
 refine w8 ?_
 refine lc (ZG (Qa rfl) (Qa rfl) rfl YY)<|w3 ?_
 exact Yf (h _ ⟨(decide (u=49)),(!(true==(decide (u=49)))),(by exact absurd ((by assumption:way=⟨#[117,112]⟩).symm.trans (by assumption:way=⟨#[100,111,119,110]⟩)) (by decide)),(by exact absurd ((by assumption:way=⟨#[117,112]⟩).symm.trans (by assumption:way=⟨#[100,111,119,110]⟩)) (by decide)),rfl⟩)<|wo []
section
variable [∀c,Decidable (SgOk c)]{c:DSg}{k:Nat}{w way code:BA}{u:UInt8}{sig q n:Int}{l:List BA}{x:Qs}
def QD (c:DSg)(sig:Int)(way:BA):DOn:=if Zn c sig way then Vz c sig way else ([],[])
abbrev Qwq (c:DSg)(sig:Int):Prop:=SgOk c∧(0≤sig∧sig≤(c.1.length:Int) - 1)∧Ya c sig=false
def QB2 (h:Qwq c sig)(a:OOk (c.1.length:Int) (Vz c sig way).1 (Vz c sig way).2):Zn c sig way:=⟨h,a⟩
def Qv7 (h:¬Qwq c sig):¬Zn c sig way:=fun g=>h g.1
def Qv8 (a:¬OOk (c.1.length:Int) (Vz c sig way).1 (Vz c sig way).2):¬Zn c sig way:=fun g=>a g.2
def QzN (h:Zn c sig way):QD c sig way=Vz c sig way:=if_pos h
def Qqk (h:¬Zn c sig way):QD c sig way=([],[]):=if_neg h
def nvB (c:DSg)(code:BA)(sig:Int):Bool:=decide (Zn c sig Zp)&&(UK (QD c sig Zp).1 code||UK (QD c sig Zp).2 code)
def nvV (c:DSg)(code:BA)(sig:Int):Bool:=nvB c code sig&&UK (QD c sig Zp).1 code
end
def VE (c:Yw)(sig:Int)(way:BA)[∀c,Decidable (SgOk c)]:FC prog 206 [(true,[.dat Qj c.1,.dat Qd c.2.1,.dat Qq c.2.2]),(false,[dI sig]),(false,[dS way])] [] 0 (QJ (PV.tup [(true,[.dat Qd ((QD c sig way).1),.dat Qd ((QD c sig way).2)]),(false,[dB (decide (Zn c sig way))])])):=by
 refine Ql func206 rfl rfl ntmps206 fun C m B o D A z=>w_ ?_
 refine xbx 0 ?_
 refine lc (xal 1 QcG Ke)<|w6 ?_
 refine lc (dK (KD c sig) QfR)<|w2 ?_
 cases a:(decide (SgOk c∧(0≤sig∧sig≤(c.1.length:Int) - 1)∧Ya c sig=false))
 have b:=ab a
 refine w2 ?_
 refine lc (Qh Qtn rfl (ao.1 rfl) rfl rfl)<|w3 ?_
 refine AC.wk (UP (p:=1) [.dat Qd ([]),.dat Qd ([])] rfl ⟨_,_,rfl,.inr ⟨_,_,rfl,rfl⟩,⟨_,_,rfl,.inr ⟨_,_,rfl,rfl⟩,rfl⟩⟩)<|w_ ?_
 have r:([]:(Qd:Ty).Den)=((QD c sig way).1):=by
  (rw[Qqk (Qv7 ‹_›)];done)
 have s:([]:(Qd:Ty).Den)=((QD c sig way).2):=by
  (rw[Qqk (Qv7 ‹_›)];done)
 have t:(false:Bool)=(decide (Zn c sig way)):=by
  exact (aj (Qv7 ‹_›)).symm
 exact fr_ m (e:=(((congrArg (fun z_=>PV.tup [(true,[.dat Qd z_,.dat Qd ([])]),(false,[dB false])]) r)).trans (congrArg (fun z_=>PV.tup [(true,[.dat Qd ((QD c sig way).1),.dat Qd z_]),(false,[dB false])]) s)).trans (congrArg (fun z_=>PV.tup [(true,[.dat Qd ((QD c sig way).1),.dat Qd ((QD c sig way).2)]),(false,[dB z_])]) t))
 have b:=aa a
 refine w6 ?_
 refine lc (dK (Qeb c sig way (by assumption:Qwq c sig).1 (by assumption:Qwq c sig).2.1) Qnf)<|lc (xal 2 QcG Ke)<|w11 ?_
 refine lc (dK (JH (c.1.length:Int) ((Vz c sig way).1) ((Vz c sig way).2)) QfS)<|w2 ?_
 cases d:(decide (OOk (c.1.length:Int) ((Vz c sig way).1) ((Vz c sig way).2)))
 have f:=ab d
 refine w2 ?_
 refine lc (Qh Qtn rfl (ao.1 rfl) rfl rfl)<|w3 ?_
 refine AC.wk (UP (p:=1) [.dat Qd ([]),.dat Qd ([])] rfl ⟨_,_,rfl,.inr ⟨_,_,rfl,rfl⟩,⟨_,_,rfl,.inr ⟨_,_,rfl,rfl⟩,rfl⟩⟩)<|w_ ?_
 have v:([]:(Qd:Ty).Den)=((QD c sig way).1):=by
  (rw[Qqk (Qv8 ‹_›)];done)
 have y:([]:(Qd:Ty).Den)=((QD c sig way).2):=by
  (rw[Qqk (Qv8 ‹_›)];done)
 have g:(false:Bool)=(decide (Zn c sig way)):=by
  exact (aj (Qv8 ‹_›)).symm
 exact fr_ m (e:=(((congrArg (fun z_=>PV.tup [(true,[.dat Qd z_,.dat Qd ([])]),(false,[dB false])]) v)).trans (congrArg (fun z_=>PV.tup [(true,[.dat Qd ((QD c sig way).1),.dat Qd z_]),(false,[dB false])]) y)).trans (congrArg (fun z_=>PV.tup [(true,[.dat Qd ((QD c sig way).1),.dat Qd ((QD c sig way).2)]),(false,[dB z_])]) g))
 have f:=aa d
 refine w8 ?_
 have h:((Vz c sig way).1:(Qd:Ty).Den)=((QD c sig way).1):=by
  (rw[QzN (QB2 ‹_› ‹_›)];done)
 have i:((Vz c sig way).2:(Qd:Ty).Den)=((QD c sig way).2):=by
  (rw[QzN (QB2 ‹_› ‹_›)];done)
 have j:(true:Bool)=(decide (Zn c sig way)):=by
  exact (ay (QB2 ‹_› ‹_›)).symm
 exact fr_ m (e:=(((congrArg (fun z_=>PV.tup [(true,[.dat Qd z_,.dat Qd ((Vz c sig way).2)]),(false,[dB true])]) h)).trans (congrArg (fun z_=>PV.tup [(true,[.dat Qd ((QD c sig way).1),.dat Qd z_]),(false,[dB true])]) i)).trans (congrArg (fun z_=>PV.tup [(true,[.dat Qd ((QD c sig way).1),.dat Qd ((QD c sig way).2)]),(false,[dB z_])]) j))
def JY (c:Yw)(sig:Int)[∀c,Decidable (SgOk c)]:FC prog 131 [(true,[.dat Qj c.1,.dat Qd c.2.1,.dat Qq c.2.2]),(false,[dI sig])] [] 0 (QJ (PV.tup [(true,[.dat Qd ((QD c sig Zp).1),.dat Qd ((QD c sig Zp).2)]),(false,[dB (decide (Zn c sig Zp))])])):=by
 refine Ql func131 rfl rfl ntmps131 fun m i j a o h g=>w_ ?_
 refine xbx 0 ?_
 refine lc (xal 1 QcG Ke)<|w5 ?_
 refine lc (dK (VE c sig (⟨#[110,101,120,116]⟩:BA)) Qbi)<|w6 ?_
 have b:((QD c sig (⟨#[110,101,120,116]⟩:BA)).1:(Qd:Ty).Den)=((QD c sig Zp).1):=by
  rfl
 have d:((QD c sig (⟨#[110,101,120,116]⟩:BA)).2:(Qd:Ty).Den)=((QD c sig Zp).2):=by
  rfl
 have f:(decide (Zn c sig (⟨#[110,101,120,116]⟩:BA)):Bool)=(decide (Zn c sig Zp)):=by
  rfl
 exact fr_ i (e:=by rw[b,d,f] <;> rfl)
def ccP (l:List BA)(code:BA):Prop:=ZZ (code.size:Int) l∧QsE code (code.size:Int)
instance (l:List BA) (code:BA):Decidable (ccP l code):=inferInstanceAs (Decidable (_∧_))
def ccV (l:List BA)(code:BA):Bool:=decide (ccP l code)&&l.any fun c=>ZK c code
def QHi (n:Int)(l:List BA):List BA:=(Qfu n.toNat).filter fun x=>l.any fun c=>ZK c x
def cdK (n:Int)(l:List BA)(k:Nat):List BA:=((Qfu n.toNat).take k).filter fun x=>l.any fun c=>ZK c x
section
variable {l:List BA}{c x code:BA}{n:Int}{k:Nat}
end
def QiV (l:List BA)(b:Nat)(h:(l.all fun x=>decide (x.size≤b))=true)(i:Nat):((l[i]?).getD ByteArray.empty).size≤b:=by
 cases a:l[i]? with
 | none=>exact aL _
 | some x=>exact aa (ao.1 h x (ah a))
abbrev B01:List BA:=[⟨#[48]⟩,⟨#[49]⟩]
def c1G (code:List UInt8):Nat→BA×Int×Int→BA×Int×Int
 | 0,st=>st
 | k+1,st=>c1G code k (st.1++(B01[(pkV code st.2.1 st.2.2 (B01.length:Int)).toNat]?).getD ByteArray.empty,pkA (B01.length:Int) st.2.1,pkS code st.2.1 st.2.2 (B01.length:Int))
def c1V (code:List UInt8)(n at_ sd:Int):BA×Int×Int:=c1G code n.toNat (⟨#[]⟩,at_,sd)
def QFq {l:List BA}{x:BA}{b:Nat}(h:∀c∈l,c.size≤b)(e:x.size≤b):∀c∈l++[x],c.size≤b:=fun c d=>by
 rcases aO.1 d with a|a
 ·exact h c a
 ·rw[aI] at a;subst a;exact e
def QG4 (x b:BA)(i:Int):BA:=(x.extract 0 i.toNat++b)++x.extract (i+1).toNat x.size
abbrev QG0:BA:=⟨#[45,45,45,45,45,45,45,45]⟩
section
variable {l:List BA}{c x y b c0:BA}{n i:Int}{m k j:Nat}
end
abbrev upT:BA:=⟨#[117,112]⟩
abbrev Z1:BA:=⟨#[100,111,119,110]⟩
def mOn (c:DSg)(sig:Int)(fr:UInt8)(k:Int):Bool:=decide (bAt (ZP c k) sig=fr)&&Zq c k sig
def mOf (c:DSg)(sig:Int)(fr:UInt8)(k:Int):Bool:= !(decide (bAt (ZP c k) sig=fr)==Zq c k sig)
section
variable {c:DSg}{f g f2 g2:Int→Bool}{k:Nat}{w way:BA}{u fr:UInt8}{sig q:Int}
end
def KA (c:Yw)(sig:Int)[∀c,Decidable (SgOk c)]:FC prog 132 [(true,[.dat Qj c.1,.dat Qd c.2.1,.dat Qq c.2.2]),(false,[dI sig])] [] 0 (QJ (PV.tup [(true,[.dat Qd ((QD c sig upT).1),.dat Qd ((QD c sig upT).2)]),(false,[dB (decide (Zn c sig upT))])])):=by
 refine Ql func132 rfl rfl ntmps132 fun n l m a o j i=>w_ ?_
 refine xbx 0 ?_
 refine lc (xal 1 QcG Ke)<|w5 ?_
 refine lc (dK (VE c sig (⟨#[117,112]⟩:BA)) Qbi)<|w6 ?_
 have b:((QD c sig (⟨#[117,112]⟩:BA)).1:(Qd:Ty).Den)=((QD c sig upT).1):=by
  rfl
 have d:((QD c sig (⟨#[117,112]⟩:BA)).2:(Qd:Ty).Den)=((QD c sig upT).2):=by
  rfl
 have h:(decide (Zn c sig (⟨#[117,112]⟩:BA)):Bool)=(decide (Zn c sig upT)):=by
  rfl
 exact fr_ l (e:=by rw[b,d,h] <;> rfl)
def UI (c:Yw)(sig:Int)[∀c,Decidable (SgOk c)]:FC prog 134 [(true,[.dat Qj c.1,.dat Qd c.2.1,.dat Qq c.2.2]),(false,[dI sig])] [] 0 (QJ (PV.tup [(true,[.dat Qd ((QD c sig Z1).1),.dat Qd ((QD c sig Z1).2)]),(false,[dB (decide (Zn c sig Z1))])])):=by
 refine Ql func134 rfl rfl ntmps134 fun n l m a o j i=>w_ ?_
 refine xbx 0 ?_
 refine lc (xal 1 QcG Ke)<|w5 ?_
 refine lc (dK (VE c sig (⟨#[100,111,119,110]⟩:BA)) Qbi)<|w6 ?_
 have b:((QD c sig (⟨#[100,111,119,110]⟩:BA)).1:(Qd:Ty).Den)=((QD c sig Z1).1):=by
  rfl
 have d:((QD c sig (⟨#[100,111,119,110]⟩:BA)).2:(Qd:Ty).Den)=((QD c sig Z1).2):=by
  rfl
 have h:(decide (Zn c sig (⟨#[100,111,119,110]⟩:BA)):Bool)=(decide (Zn c sig Z1)):=by
  rfl
 exact fr_ l (e:=by rw[b,d,h] <;> rfl)
def QbX (cube:BA)(codes:List BA):Bool:=codes.any fun c=>ZK cube c
def QgK (cube:BA)(off:List BA)(i:Nat):Bool:=decide (bAt cube (i:Int)=45)||QbX (Wz cube (i:Int) ⟨#[45]⟩) off
def Qju (cube:BA)(off:List BA):Bool:=(List.range cube.size).all (QgK cube off)
def prB (on off:List BA)(x:BA):Bool:=QbX x on&&(!(QbX x off)&&Qju x off)
def cuF (c:BA):List BA:=[c++⟨#[45]⟩,c++⟨#[48]⟩,c++⟨#[49]⟩]
def Q9:Nat→List BA
 | 0=>[⟨#[]⟩]
 | n+1=>(Q9 n).flatMap cuF
def Yb (n:Int)(on off:List BA):List BA:=(Q9 n.toNat).filter (prB on off)
def QdW (n:Int)(on off:List BA)(k:Nat):List BA:=((Q9 n.toNat).take k).filter (prB on off)
section
variable {n m:Int}{k j:Nat}{c x cube:BA}{l on off codes:List BA}{u:UInt8}
def QtH:(l.flatMap cuF).length=3*l.length:=by
 induction l with
 | nil=>rfl
 | cons x l a=>rw[di,ai,a,av];show 3+_=_;omega
def Ql8 {n:Nat}:(Q9 n).length=3 ^ n:=by
 induction n with
 | zero=>rfl
 | succ n a=>rw[Q9,QtH,a,Nat.pow_succ];omega
def Qfw {n:Nat}(h:n≤8):(Q9 n).length≤6561:=by rw[Ql8];exact Nat.pow_le_pow_right (by decide) h
def Qxg (a:l[k]? =some x):(l.take k).flatMap cuF++[x++⟨#[45]⟩,x++⟨#[48]⟩,x++⟨#[49]⟩]=(l.take (k+1)).flatMap cuF:=by
 rw[Qr a,cF];simp[cuF]
def QAe {n:Nat}(h:(Q9 n).length≤j):((Q9 n).take j).flatMap cuF=Q9 (n+1):=by rw[aJ h];rfl
def XC:∀{n:Nat} {x:BA},x∈Q9 n→x.size=n
 | 0,x,h=>by rw[Q9,aI] at h;subst h;rfl
 | n+1,x,h=>by
  rw[Q9,cj] at h
  obtain ⟨c,a,h⟩:=h
  have:=XC a
  simp only[cuF,aK,bO,or_false] at h
  rcases h with rfl|rfl|rfl <;> rw[aE,this] <;> rfl
def QBr (d:k<cube.size)(e:cube[((k:Int)).toNat]? =some u)(a:¬u=45)(b:QbX (Wz cube (k:Int) ⟨#[45]⟩) off=false):false=Qju cube off:=by
 symm;unfold Qju;rw[dE]
 exact ⟨k,bC.2 d,by unfold QgK;rw[QU e,b];simp[a]⟩
def Qyh (a:∀j,j<k→QgK cube off j=true)(d:cube.size≤k):true=Qju cube off:=by
 symm;unfold Qju;rw[ao]
 exact fun j b=>a j (ba (bC.1 b) d)
def Qle (a:∀j,j<k→QgK cube off j=true)(h:QgK cube off k=true):∀j,j<k+1→QgK cube off j=true:=fun j b=>by
 by_cases e:j=k
 ·subst e;exact h
 ·exact a j (by omega)
def QzE (a:cube[((k:Int)).toNat]? =some u)(h:u=45):QgK cube off k=true:=by unfold QgK;rw[QU a,h];rfl
def QzD (h:QbX (Wz cube (k:Int) ⟨#[45]⟩) off=true):QgK cube off k=true:=by unfold QgK;rw[h];simp
def QyN (b:(k:Int)<(cube.size:Int))(h:∀c∈off,cube.size≤c.size):∀c∈off,(Wz cube (k:Int) ⟨#[45]⟩).size≤c.size:=fun c a=>by
 rw[Va (by omega) (by omega) rfl];exact h c a
def QeW (a:(Q9 n.toNat)[k]? =some x)(h:prB on off x=true):QdW n on off k++[x]=QdW n on off (k+1):=Qi1 a h
def Wj (a:(Q9 n.toNat)[k]? =some x)(h:prB on off x=false):QdW n on off k=QdW n on off (k+1):=QnD a h
def Qyi (h:n≤8):(QdW n on off k).length≤6561:=bi (bR ..) (bi (List.length_take_le' ..) (Qfw (by omega)))
def QrX (h:(Q9 n.toNat).length≤k):QdW n on off k=Yb n on off:=by unfold QdW Yb;rw[aJ h]
def Qyg (a:QbX x on=true)(b:QbX x off=false)(d:Qju x off=true):prB on off x=true:=by unfold prB;rw[a,b,d];rfl
def QpQ (a:QbX x on=false):prB on off x=false:=by unfold prB;rw[a];rfl
def QpR (a:QbX x off=true):prB on off x=false:=by unfold prB;rw[a];simp
def QpS (a:Qju x off=false):prB on off x=false:=by unfold prB;rw[a];simp
end
def Uk (cube:BA)(codes:List BA)(f:∀c∈codes,cube.size≤c.size):FC prog 310 [(false,[dS cube]),(false,[.dat Qd codes])] [] 0 (QJ (lB (QbX cube codes))):=by
 refine Ql func310 rfl rfl ntmps310 fun s g r i t p o=>w6 ?_
 refine alL 7 fun _=> ?_
 refine w4 ?_
 refine lpK codes.length (fun k=>NoneTo (fun c=>ZK cube c) codes k) (fun k=>⟨[(0,lf (dS cube)),(7,lf (.dat Qd codes)),(8,lI (codes.length:Int)),(9,lI (k:Int))],[]⟩) (NoneTo.zero) ?_ fun k _ e=> ?_
 exact wo []
 refine w4 ?_
 cases b:(decide ((k:Int)<(codes.length:Int)))
 have d:=ab b
 refine w7 ?_
 refine fqB g ?_
 first|exact (e.any_no (by omega)).symm
 have d:=aa b
 refine w5 ?_
 obtain ⟨h,a⟩:=gx codes k
 refine w7 ?_
 refine lc (dK (YA cube h (f _ (ah a))) Wo)<|w_ ?_
 cases q:(ZK cube h)
 refine w6 ?_
 exact Qc<|lK_ (e.step a ‹_›)<|wo []
 refine w5 ?_
 refine fqB g ?_
 exact (bG.2 ⟨_,ah a,by assumption⟩).symm
def Qdh (cube:BA)(off:List BA)(g:∀c∈off,cube.size≤c.size)(y:cube.size≤1000):FC prog 311 [(false,[dS cube]),(false,[.dat Qd off])] [] 0 (QJ (lB (Qju cube off))):=by
 refine Ql func311 rfl rfl ntmps311 fun v h t i w p o=>w8 ?_
 refine lpK cube.size (fun k=>∀j,j<k→QgK cube off j=true) (fun k=>⟨[(0,lf (dS cube)),(1,lf (.dat Qd off)),(5,lI (k:Int))],[]⟩) ((fun j s=>absurd s (aS j))) ?_ fun k _ f=> ?_
 exact wo []
 refine w7 ?_
 cases a:(decide ((k:Int)<(cube.size:Int)))
 have b:=ab a
 refine w7 ?_
 refine fqB h ?_
 exact Qyh f (by omega)
 have b:=aa a
 refine w7 ?_
 obtain ⟨c4,r⟩:=gs cube (((k:Int)).toNat)
 refine w_ ?_
 refine lc (QW (Qa rfl) (QS 45 rfl) rfl)<|w_ ?_
 cases d:(!decide (c4=45))
 have e:(c4=45):=QB d
 refine w15 ?_
 exact Qc<|lK_ ((Qle f (by first|exact QzE ‹_› ‹_› | exact QzD ‹_›)))<|wo []
 have e:¬(c4=45):=QL d
 refine w2 ?_
 refine lgy rfl rfl (dK (Xk cube (k:Int) (⟨#[45]⟩:BA) (by omega) ⟨by omega,by decide⟩) W0)<|w_ ?_
 refine lgy rfl rfl (dK (Uk (Wz cube (k:Int) (⟨#[45]⟩:BA)) off (QyN (k:=k) (by omega) g)) Qbq)<|w3 ?_
 cases q:(QbX (Wz cube (k:Int) (⟨#[45]⟩:BA)) off)
 refine w5 ?_
 refine fqB h ?_
 exact QBr (k:=k) (by omega) ‹_› ‹_› ‹_›
 refine w7 ?_
 exact Qc<|lK_ ((Qle f (by first|exact QzE ‹_› ‹_› | exact QzD ‹_›)))<|wo []
theorem KC (n:Int)(I:0≤n∧n≤8):FC prog 309 [(false,[dI n])] [] 0 (WB 9 .str (Q9 n.toNat)):=by
 refine Ql func309 rfl rfl ntmps309 fun E y D t F w v=>w4 ?_
 refine lc (dBs 0 (e:= .str) Wd)<|w4 ?_
 refine Qy (fun r s=>∃(b:Int) (a:List BA),r=b.toNat∧(0≤b∧b≤n)∧(a=Q9 (n - b).toNat)∧s=⟨[(0,lI b),(2,lf (.val (.slice none 0 0))),(3,lR 1)],[ar 1 9 .str a]⟩) ⟨n,[(⟨#[]⟩:BA)],rfl,by omega,(by rw[show (n - n).toNat=0 by omega];rfl),rfl⟩ ?_ ?_
 exact wp [(1,0)] ⟨(Qg (by first|rfl|simp)),trivial⟩
 rintro r s ⟨b,a,C,H,d,rfl⟩
 have z:a.length≤6561:=by rw[d];exact Qfw (n:=(n - b).toNat) (by omega)
 refine w5 ?_
 cases f:(decide (0<b))
 have g:=ab f
 refine w8 ?_
 refine fo_ y ?_
 ·(rw[d,show b=0 by omega,Int.sub_zero];done)
 have g:=aa f
 refine w14 ?_
 refine AC.wk (Wk.nilS 2 4 9 .str rfl (Fresh.of rfl) (nlr rfl))<|lp0 a.length (fun j=>⟨[(0,lI b),(2,lf (.val (.slice none 0 0))),(3,lR 1),(4,lR 3),(12,lR 1),(13,lI (a.length:Int)),(14,lI (j:Int))],[ar 1 9 .str a,ar 3 9 .str (((a).take j).flatMap cuF)]⟩) ?_ fun j _=> ?_
 exact wp [(3,2)] ⟨rfl,(Qg (rfl)),trivial⟩
 have A:=QtH (l:=(a).take j)
 have B:((a).take j).length≤(a).length:=by simp only[au];omega
 refine w4 ?_
 cases h:(decide ((j:Int)<(a.length:Int)))
 have i:=ab h
 refine w6 ?_
 refine Qc<|w5 ?_
 exact Qc<|Zb ⟨(b - 1),(((a).take j).flatMap cuF),rfl,by omega,(by rw[d] at*;rw[QAe (by omega),show (n - (b - 1)).toNat=(n - b).toNat+1 by omega]),rfl⟩ (by omega)<|wp [(1,3)] ⟨(Qg (by first|rfl|simp)),trivial⟩
 have i:=aa h
 refine w6 ?_
 obtain ⟨G,o⟩:=gx a j
 have p:=o
 have q:=XC (d▸ah o)
 refine w6 ?_
 iterate 2 refine lc (QX (Qa rfl) (Evl.str rfl) rfl (by first|omega|(simp only[aE,ZJ];omega)))<|w_ ?_
 refine lc (QX (Qa rfl) (Evl.str rfl) rfl (by first|omega|(simp only[aE,ZJ];omega)))<|lc (dBs 4 (e:= .str) Wd)<|lc (dA 5 Ub)<|w_ ?_
 refine Qc<|w4 ?_
 exact Qc<|l0_<|wp [(3,5)] ⟨rfl,(Qg ((Qxg p))),trivial⟩
def dpB (on off:List BA)(x:BA):Bool:= !(prB on off x)
section
variable {n:Int}{k:Nat}{x:BA}{l on off:List BA}
def Qzg (f:0≤n)(b:x∈Q9 n.toNat)(h:∀c∈l,(c.size:Int)=n):∀c∈l,x.size≤c.size:=fun c a=>by
 have d:=XC b
 have e:=h c a
 omega
def QCV (b:0≤n∧n≤8)(d:∀c∈on,(c.size:Int)=n)(e:∀c∈off,(c.size:Int)=n):∀x∈Q9 n.toNat,x.size≤1000∧(∀c∈on,x.size≤c.size)∧∀c∈off,x.size≤c.size:=fun x a=>by
 have:=XC a
 exact ⟨by omega,Qzg b.1 a d,Qzg b.1 a e⟩
end
def UT (n:Int)(on:List BA)(off:List BA)(i:0≤n∧n≤8)(q:∀c∈on,(c.size:Int)=n)(r:∀c∈off,(c.size:Int)=n):FC prog 266 [(false,[dI n]),(false,[.dat Qd on]),(false,[.dat Qd off])] [] 0 (WB 9 .str (Yb n on off)):=by
 refine Ql func266 rfl rfl ntmps266 fun z s y m A p o=>w9 ?_
 refine lc (dK (KC n i).frozen Qf0)<|alL 11 fun _=> ?_
 refine w4 ?_
 refine AC.wk (Wk.nilS 0 7 9 .str rfl (Fresh.of rfl) (nlr rfl))<|lp0 ((Q9 n.toNat).length) (fun k=>⟨[(1,lf (.dat Qd on)),(2,lf (.dat Qd off)),(6,lf (.val (.slice none 0 0))),(7,lR 1),(11,lf (.dat Qd (Q9 n.toNat))),(12,lI ((Q9 n.toNat).length:Int)),(13,lI (k:Int))],[ar 1 9 .str (QdW n on off k)]⟩) ?_ fun k _=> ?_
 exact wp [(1,0)] ⟨(Qg (rfl)),trivial⟩
 have w:=Qyi (n:=n) (on:=on) (off:=off) (k:=k) i.2
 refine w4 ?_
 cases f:(decide ((k:Int)<((Q9 n.toNat).length:Int)))
 have g:=ab f
 refine w8 ?_
 refine fo_ s ?_
 exact QrX (by omega)
 have g:=aa f
 refine w5 ?_
 obtain ⟨d,j⟩:=gx (Q9 n.toNat) k
 have a:=j
 have h:=ah a
 have b:=QCV i q r _ h
 refine w7 ?_
 refine lc (dK (Uk d on (by first|exact b.2.1|exact b.2.2)) Qbq)<|w_ ?_
 cases t:(QbX d on)
 refine w16 ?_
 refine w_ ?_
 exact Qc<|l0_<|wp [] ⟨(Qg (by first|exact QeW a (Qyg ‹_› ‹_› ‹_›)|exact Wj a (QpQ ‹_›)|exact Wj a (QpR ‹_›)|exact Wj a (QpS ‹_›))),trivial⟩
 refine w2 ?_
 refine lgy rfl rfl (dK (Uk d off (by first|exact b.2.1|exact b.2.2)) Qbq)<|w3 ?_
 cases u:(QbX d off)
 refine w2 ?_
 refine lgy rfl rfl (dK (Qdh d off b.2.2 b.1) Qnp)<|w2 ?_
 cases v:(Qju d off)
 refine w6 ?_
 exact Qc<|l0_<|wp [] ⟨(Qg (by first|exact QeW a (Qyg ‹_› ‹_› ‹_›)|exact Wj a (QpQ ‹_›)|exact Wj a (QpR ‹_›)|exact Wj a (QpS ‹_›))),trivial⟩
 refine w4 ?_
 refine lc (dBs 2 (e:= .str) Wd)<|lc (dA 3 Ub)<|w_ ?_
 refine Qc<|w4 ?_
 exact Qc<|l0_<|wp [(1,3)] ⟨(Qg (by first|exact QeW a (Qyg ‹_› ‹_› ‹_›)|exact Wj a (QpQ ‹_›)|exact Wj a (QpR ‹_›)|exact Wj a (QpS ‹_›))),trivial⟩
 refine w11 ?_
 exact Qc<|l0_<|wp [] ⟨(Qg (by first|exact QeW a (Qyg ‹_› ‹_› ‹_›)|exact Wj a (QpQ ‹_›)|exact Wj a (QpR ‹_›)|exact Wj a (QpS ‹_›))),trivial⟩
section
variable {n:Int}{on off:List BA}
def PrP (n:Int)(on off:List BA):Prop:=OOk n on off∧((Yb n on off).length:Int)≤60
instance (n:Int) (on off:List BA):Decidable (PrP n on off):=inferInstanceAs (Decidable (_∧_))
def Qvo (n:Int)(on off:List BA):List BA:=if PrP n on off then Yb n on off else []
def Qzy (h:OOk n on off):∀c∈on,(c.size:Int)=n:=fun c a=>(h.2.1.1.1 c a).2
def Qvd (h:OOk n on off):∀c∈off,(c.size:Int)=n:=fun c a=>(h.2.2.1.1.1 c a).2
def QzC (h:OOk n on off)(a:¬(60:Int)<((Yb n on off).length:Int)):Qvo n on off=Yb n on off∧decide (PrP n on off)=true:=by
 have:PrP n on off:=⟨h,by omega⟩
 exact ⟨if_pos this,ay this⟩
def QpP (h:¬PrP n on off):Qvo n on off=[]∧decide (PrP n on off)=false:=⟨if_neg h,aj h⟩
end
def Qgc (n:Int)(on:List BA)(off:List BA):FC prog 207 [(false,[dI n]),(false,[.dat Qd on]),(false,[.dat Qd off])] [] 0 (Is (PV.tup [(false,[.ref 0]),(false,[dB (decide (PrP n on off))])]) [ar 0 9 .str (Qvo n on off)]):=by
 refine Ql func207 rfl rfl ntmps207 fun l c k d m j i=>acI 0 fun _=>w9 ?_
 refine lc (dK (JH n on off) QfS)<|w2 ?_
 cases a:(decide (OOk n on off))
 have b:=ab a
 refine w5 ?_
 refine AC.wk (Wk.nilS 0 6 9 .str rfl (Fresh.of rfl) (nlr rfl))<|w_ ?_
 have e:(false:Bool)=(decide (PrP n on off)):=by
  exact (QpP (fun g=>absurd g.1 ‹_›)).2.symm
 exact fi_ [] c ⟨(Qg (by exact (QpP (fun g=>absurd g.1 ‹_›)).1.symm)),trivial⟩ (h0:=by rw[← e] <;> rfl)
 have b:=aa a
 refine w6 ?_
 refine lc (dO 1 (UT n on off (by have:=(by assumption:OOk n on off).1;omega) (Qzy ‹_›) (Qvd ‹_›)) QfT)<|w8 ?_
 refine cd_ (fun _ _=> ?_) fun _ _=> ?_
 refine w7 ?_
 have f:(true:Bool)=(decide (PrP n on off)):=by
  exact (QzC ‹_› ‹_›).2.symm
 exact fi_ [(0,1)] c ⟨(Qg (by exact (QzC ‹_› ‹_›).1.symm)),trivial⟩ (h0:=by rw[← f] <;> rfl)
 refine w4 ?_
 refine AC.wk (Wk.nilS 2 6 9 .str rfl (Fresh.of rfl) (nlr rfl))<|w_ ?_
 have h:(false:Bool)=(decide (PrP n on off)):=by
  exact (QpP (fun g=>by have:=g.2;omega)).2.symm
 exact fi_ [(0,2)] c ⟨(Qg (by exact (QpP (fun g=>by have:=g.2;omega)).1.symm)),trivial⟩ (h0:=by rw[← h] <;> rfl)
end Go.Proofs.YtjfpbcmfbnnooaaGreat
