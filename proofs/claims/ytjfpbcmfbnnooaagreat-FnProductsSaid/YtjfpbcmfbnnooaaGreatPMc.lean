import Derived.Test.YtjfpbcmfbnnooaaGreatPRp
import Derived.Test.YtjfpbcmfbnnooaaGreatPKj
set_option linter.all false
namespace Go.Proofs.YtjfpbcmfbnnooaaGreat
open Go.RowKit Tryz
set_option maxRecDepth 100000
set_option maxHeartbeats 4000000
def dgT (n:Int):BA:=⟨#[UInt8.ofNat (48+n).toNat]⟩
def YX (n:Int):BA:=if n<10 then dgT n else if n<100 then dgT (n / 10)++dgT (n % 10) else (dgT (n / 10 / 10)++dgT (n / 10 % 10))++dgT (n % 10)
def Qcw (cube:BA)(m:Nat):List DPn:=((List.range m).filter fun j:Nat=> !decide (bAt cube (j:Int)=45)).map fun j:Nat=>((j:Int),decide (bAt cube (j:Int)=48))
def QCx (name cube:BA)(i:Nat):DWr:=(name++⟨#[97]⟩++YX (i:Int),2,Qcw cube cube.size,[])
def U8 (name:BA)(cover:List BA)(i:Nat):List DWr:=(List.range i).map fun j=>QCx name ((cover[j]?).getD ByteArray.empty) j
def orI (w i:Nat):List DPn:=(List.range i).map fun j=>(((w+j:Nat):Int),false)
def orL (ws:List DWr)(name:BA)(cover:List BA):List DWr:=(ws++U8 name cover cover.length)++[(name,3,orI ws.length cover.length,[])]
def Qgn (ss:List Qs)(k:Nat):List DWr:=(ss.take k).map fun g=>(g.1,if g.2=1 then 1 else 4,[],[])
def sNm (sig:Int):BA:=(⟨#[115]⟩:BA)++YX sig
def rNm (sig:Int):BA:=(⟨#[114]⟩:BA)++YX sig
def QrJ (sig:Int)(a b:List BA)(ws:List DWr):List DWr:=
 match (orL (orL ws (sNm sig) a) (rNm sig) b)[sig.toNat]? with
 | some x=>(orL (orL ws (sNm sig) a) (rNm sig) b).set sig.toNat (x.1,x.2.1,[((ws.length:Int)+(a.length:Int),false),(((orL ws (sNm sig) a).length:Int)+(b.length:Int),false)],x.2.2.2)
 | none=>orL (orL ws (sNm sig) a) (rNm sig) b
def WQ (ss:List Qs)(sigs:List Int)(sets resets:List (List BA)):Nat→List DWr
 | 0=>Qgn ss ss.length
 | i+1=>QrJ ((sigs[i]?).getD 0) ((sets[i]?).getD []) ((resets[i]?).getD []) (WQ ss sigs sets resets i)
def Qhq (ss:List Qs)(sigs:List Int)(sets resets:List (List BA)):DNl:=(ss,WQ ss sigs sets resets sigs.length)
def Qhp (ss:List Qs)(k:Nat):List DWr:=(ss.take k).map fun g=>(g.1,1,[],[])
def QyV (c:DCk)(ws:List DWr)(g:DGt):List DWr:=ws.set g.1.toNat (((c.1[g.1.toNat]?).map fun s=>s.1).getD ByteArray.empty,5,[],g.2.2.1)
def Qha (c:DCk)(i:Nat):List DWr:=(c.2.take i).foldl (QyV c) (Qhp c.1 c.1.length)
def al1 (c:DCk)(k:Int):Bool:=c.2.all fun g=>decide (g.2.1=k)
def mmV (c:DCk):DNl:=Qhq c.1 (c.2.map fun g=>g.1) (c.2.map fun g=>g.2.2.1) (c.2.map fun g=>g.2.2.2)
def bnP (c:DCk):Prop:=Xm c∧(al1 c 1=true∨(al1 c 2=true∧QV (mmV c)))
def bnV [∀c,Decidable (Xm c)][∀n,Decidable (QV n)](c:DCk):DNl:=if Xm c then (if al1 c 1=true then (c.1,Qha c c.2.length) else if al1 c 2=true∧QV (mmV c) then mmV c else ([],[])) else ([],[])
def bnB [∀c,Decidable (Xm c)][∀n,Decidable (QV n)](c:DCk):Bool:=decide (Xm c)&&(al1 c 1||(al1 c 2&&decide (QV (mmV c))))
def evL {α:Type}(f:DRc→α)(l:List DRc)(p:Nat):Nat→List α
 | 0=>[]
 | i+1=>evL f l p i++(match l[2*i+p]? with|some m=>[f m]|none=>[])
def mmM (c:DSg)(l:List DRc)(h:Nat):DNl:=Qhq c.1 (evL (fun m=>m.1) l 0 h) (evL (fun m=>m.2.2) l 0 h) (evL (fun m=>m.2.2) l 1 h)
section
variable {n w:Int}{cube name:BA}{m i k j:Nat}{u:UInt8}{ws:List DWr}{cover a b:List BA}{ss:List Qs}{sig:Int}{x:DWr}{c:DCk}{g:DGt}{s:Qs}{sigs:List Int}{sets resets:List (List BA)}
def QDU (h:n<10):(⟨#[UInt8.ofNat (48+n).toNat]⟩:BA)=YX n:=(if_pos h).symm
def QDV (h:¬n<10)(d:n≤999):YX (n / 10)++(⟨#[UInt8.ofNat (48+n % 10).toNat]⟩:BA)=YX n:=by
 unfold YX
 rw[if_neg h]
 by_cases e:n<100
 ·rw[if_pos e,if_pos (show n / 10<10 by omega)];rfl
 ·rw[if_neg e,if_neg (show¬n / 10<10 by omega),if_pos (show n / 10<100 by omega)];rfl
def HQ (n:Int):(YX n).size≤3:=by
 unfold YX
 split
 ·show 1≤3;omega
 ·split
  ·rw[aE];show 1+1≤3;omega
  ·rw[aE,aE];show 1+1+1≤3;omega
def QD5 (d:bAt cube (m:Int)=u)(h:¬u=45):Qcw cube m++[((m:Int),decide (u=48))]=Qcw cube (m+1):=by
 unfold Qcw;rw[bk,bg,aT];simp[d,h]
def QD4 (d:bAt cube (m:Int)=u)(h:u=45):Qcw cube m=Qcw cube (m+1):=by
 unfold Qcw;rw[bk,bg,aT];simp[d,h]
def Qye:(Qcw cube m).length≤m:=by
 unfold Qcw
 rw[aC]
 have:=bR (fun j:Nat=> !decide (bAt cube (j:Int)=45)) (List.range m)
 rw[dh] at this;exact this
def QCy (d:cover[k]? =some cube){ps:List DPn}(e:ps=Qcw cube cube.size){t:BA}(f:t=name++⟨#[97]⟩++YX (k:Int)):(ws++U8 name cover k)++[(t,2,ps,[])]=ws++U8 name cover (k+1):=by
 unfold U8
 rw[bk,aT,aM]
 subst e f
 simp[QCx,d]
def QGo {v:Int}(h:v=((ws++U8 name cover k).length:Int)):orI ws.length k++[(v,false)]=orI ws.length (k+1):=by
 unfold orI
 rw[bk,aT,h]
 simp[U8]
def QwB:(U8 name cover i).length=i:=by simp[U8]
def Qya:(orI m i).length=i:=by simp[orI]
def HS:(orL ws name cover).length=ws.length+cover.length+1:=by unfold orL;simp[U8];omega
def Qzq (d:ss[k]? =some s){v:Int}(hv:v=if s.2=1 then 1 else 4):Qgn ss k++[(s.1,v,[],[])]=Qgn ss (k+1):=by
 unfold Qgn;rw[Qr d,aT,hv];rfl
def QxL:(Qgn ss ss.length).length=ss.length:=by simp[Qgn]
def QDo (d:ss[k]? =some s):Qhp ss k++[(s.1,1,[],[])]=Qhp ss (k+1):=by unfold Qhp;rw[Qr d,aT];rfl
def Qpl:(Qhp ss ss.length).length=ss.length:=by simp[Qhp]
def QuV:(QrJ sig a b ws).length=ws.length+a.length+b.length+2:=by
 unfold QrJ
 split
 ·rw[ax,HS,HS];omega
 ·rw[HS,HS];omega
def QDE (d:(orL (orL ws (sNm sig) a) (rNm sig) b)[sig.toNat]? =some x):(orL (orL ws (sNm sig) a) (rNm sig) b).set sig.toNat (x.1,x.2.1,[((ws.length:Int)+(a.length:Int),false),(((orL ws (sNm sig) a).length:Int)+(b.length:Int),false)],x.2.2.2)=QrJ sig a b ws:=by
 unfold QrJ;rw[d]
def QA5 (d:sigs[i]? =some sig)(e:sets[i]? =some a)(f:resets[i]? =some b):QrJ sig a b (WQ ss sigs sets resets i)=WQ ss sigs sets resets (i+1):=by
 rw[WQ,d,e,f];rfl
def Qx0 (f:∀a∈sets,a.length≤300)(hb:∀a∈resets,a.length≤300):ss.length≤(WQ ss sigs sets resets i).length∧(WQ ss sigs sets resets i).length≤ss.length+602*i:=by
 have d:∀(l:List (List BA)) (j:Nat),(∀a∈l,a.length≤300)→((l[j]?).getD []).length≤300:=fun l j h=>by
  cases e:l[j]? with
  | none=>simp
  | some a=>exact h a (ah e)
 induction i with
 | zero=>rw[WQ,QxL];omega
 | succ i o=>
  rw[WQ,QuV]
  have:=d sets i f
  have:=d resets i hb
  omega
def QEI (d:c.2[k]? =some g)(e:c.1[g.1.toNat]? =some s):(Qha c k).set g.1.toNat (s.1,5,[],g.2.2.1)=Qha c (k+1):=by
 unfold Qha
 rw[Qr d,bN]
 simp[QyV,e]
def Qqo:(Qha c k).length=c.1.length:=by
 unfold Qha
 have:∀(l:List DGt) (ws:List DWr),(l.foldl (QyV c) ws).length=ws.length:=fun l=>by
  induction l with
  | nil=>intro ws;rfl
  | cons g l d=>intro ws;rw[bn,d];simp[QyV]
 rw[this,Qpl]
def QyW (h:c.2.length≤k):Qha c k=Qha c c.2.length:=by unfold Qha;rw[aJ h,aJ (aP _)]
def QA8 (d:sigs=(c.2.take k).map fun g=>g.1)(e:sets=(c.2.take k).map fun g=>g.2.2.1)(f:resets=(c.2.take k).map fun g=>g.2.2.2)(o:c.2.length≤k):Qhq c.1 sigs sets resets=mmV c∧sigs=c.2.map (fun g=>g.1)∧sets=c.2.map (fun g=>g.2.2.1)∧resets=c.2.map (fun g=>g.2.2.2):=by
 rw[aJ o] at d e f
 refine ⟨?_,d,e,f⟩
 rw[d,e,f];rfl
def Qwy {f:Bool}{v:Int}(o:c.2[k]? =some g)(h:f=(c.2.take k).all fun g=>decide (g.2.1=v)){d:Bool}(e:d=(f&&decide (g.2.1=v))):d=(c.2.take (k+1)).all fun g=>decide (g.2.1=v):=by
 rw[Qr o,List.all_append,← h,e];simp
def Xo {d:Bool}{v:Int}(h:d=(c.2.take k).all fun g=>decide (g.2.1=v))(e:c.2.length≤k):al1 c v=d:=by
 unfold al1;rw[h,aJ e]
variable [∀c,Decidable (Xm c)][∀n,Decidable (QV n)]
def Qz7 (h:¬Xm c):[]=(bnV c).1∧[]=(bnV c).2∧false=bnB c:=by
 unfold bnV bnB;rw[if_neg h,aj h];exact ⟨rfl,rfl,rfl⟩
def QwT (h:Xm c)(d:al1 c 1=true):c.1=(bnV c).1∧Qha c c.2.length=(bnV c).2∧true=bnB c:=by
 unfold bnV bnB;rw[if_pos h,if_pos d,ay h,d];exact ⟨rfl,rfl,rfl⟩
def QwU (h:Xm c)(d:al1 c 1=false)(e:al1 c 2=true)(f:QV (mmV c)):(mmV c).1=(bnV c).1∧(mmV c).2=(bnV c).2∧true=bnB c:=by
 unfold bnV bnB;rw[if_pos h,if_neg (by rw[d];decide),if_pos ⟨e,f⟩,ay h,d,e,ay f];exact ⟨rfl,rfl,rfl⟩
def QqG (h:Xm c)(d:al1 c 1=false)(f:¬(al1 c 2=true∧QV (mmV c))):[]=(bnV c).1∧[]=(bnV c).2∧false=bnB c:=by
 unfold bnV bnB
 rw[if_pos h,if_neg (by rw[d];decide),if_neg f,ay h,d]
 refine ⟨rfl,rfl,?_⟩
 cases e:al1 c 2 with
 | false=>rfl
 | true=>rw[aj fun q=>f ⟨e,q⟩];rfl
end
def Qeh {o:Nat}(f:∀(n:Int) (r:0≤n∧n≤999) (_:n.toNat<o),FC prog 330 [(false,[dI n])] [] 0 (QJ (lf (dS (YX n)))))(n:Int)(r:0≤n∧n≤999)(A:n.toNat=o):FC prog 330 [(false,[dI n])] [] 0 (QJ (lf (dS (YX n)))):=by
 refine Ql func330 rfl rfl ntmps330 fun C q B t D z y=>w8 ?_
 refine cd_ (fun _ _=> ?_) fun _ _=> ?_
 refine w_ ?_
 apply dW [io 10 _,io 11 (lI (n / 10)),io 12 (lf (dS (YX (n / 10)))),io 13 _,io 14 (lI (n % 10)),io 15 _,io 16 (lf (.dat .u8 (UInt8.ofNat (48+(n % 10)).toNat))),⟨some 17,lR 0,[ar 0 5 .u8 ([UInt8.ofNat (48+(n % 10)).toNat])]⟩,io 18 (lf (dS (⟨#[UInt8.ofNat (48+(n % 10)).toNat]⟩:BA))),io 19 (lf (dS ((YX (n / 10))++(⟨#[UInt8.ofNat (48+(n % 10)).toNat]⟩:BA)))),io 2 _] [0,0,0,7,7,7,7,7,7,0,0]
 refine z_ ?_
 refine zz (fun _ d=>ac (Qfj (d.v rfl) (Qn rfl) rfl (by omega) (by omega)) rfl)<|zz (fun _ d=>ac (dK (f (n / 10) (by omega) (by omega)) Jg) rfl)<|z_ ?_
 refine zz (fun _ d=>ac (QbU (d.v rfl) (Qn rfl) rfl (by omega) (by omega)) rfl)<|z_ ?_
 exact zz (fun _ d=>ac (QhA (d.v rfl) VB JR (by omega) (by omega) rfl) rfl)<|zz (fun _ d=>ac (dBs 0 (e:= .u8) Qqq) rfl)<|zz (fun _ d=>ac (Y5 (ys:=[UInt8.ofNat (48+(n % 10)).toNat]) (He (d.v rfl) (d.n 0 rfl)) Wq JR Yd rfl) rfl)<|zz (fun _ d=>ac (QX (d.v rfl) (d.v rfl) rfl (by (have:=HQ (n / 10);simp only[ZJ];omega))) rfl)<|y1
 refine w_ ?_
 exact fqS q<|QDV ‹_› r.2
 refine w3 ?_
 refine lc (QhA (Qa rfl) VB JR (by omega) (by omega) rfl)<|lc (dBs 1 (e:= .u8) Qqq)<|lc (Y5 (ys:=[UInt8.ofNat (48+n).toNat]) (He (Qa rfl) rfl) Wq JR Yd rfl)<|w3 ?_
 exact fqS q<|QDU ‹_›
def Ka (n:Int)(d:0≤n∧n≤999):FC prog 330 [(false,[dI n])] [] 0 (QJ (lf (dS (YX n)))):=by
 have H:∀(e:Nat) (n:Int) (d:0≤n∧n≤999) (_:n.toNat=e),FC prog 330 [(false,[dI n])] [] 0 (QJ (lf (dS (YX n)))):=fun e=>Nat.strongRecOn e fun e o=>fun n d f=>Qeh (fun n d q=>o _ q n d rfl) n d f
 exact H _ n d rfl
def JJ (ss:List Qs)(ws:List DWr)(name:BA)(cover:List BA)(M:cover.length≤300∧∀x∈cover,x.size≤1000)(U:ws.length≤100000∧name.size≤1000):FC prog 329 [(false,[.ptr 0 0]),(false,[dS name]),(false,[.dat Qd cover])] [bx 0 346 [.ref 1,.ref 2],ar 1 103 QG ss,ar 2 147 Zm ws] 2 (Is (lI ((ws.length:Int)+(cover.length:Int))) [bx 0 346 [.ref 1,.ref 2],ar 1 103 QG ss,ar 2 147 Zm (orL ws name cover)]):=by
 refine Ql func329 rfl rfl ntmps329 fun S L R H T K J=>w5 ?_
 refine lc (Qh QbZ ⟨_,_,rfl,(Qm rfl),⟨_,_,rfl,(Evl.ev (Qn rfl)),rfl⟩⟩ (ao.1 rfl) rfl rfl)<|lc (xal 3 Zm Xa)<|w9 ?_
 refine AC.wk (Qo 4 (p:=3) (off:=2) 207 Q0 rfl rfl (Fresh.of rfl) (nlr rfl))<|lp0 cover.length (fun k=>⟨[(0,lP 0 0),(1,lf (dS name)),(6,lI 0),(7,lP 3 0),(14,lf (.dat Qd cover)),(15,lI (cover.length:Int)),(16,lI (k:Int))],[bx 0 346 [.ref 1,.ref 6],ar 1 103 QG ss,bx 3 147 [dS name,dI 3,.ref 5,.val (.slice none 0 0)],ar 5 207 Q0 (orI ws.length k),ar 6 147 Zm (ws++U8 name cover k)]⟩) ?_ fun k _=> ?_
 exact wp [(5,4),(6,2)] ⟨rfl,rfl,rfl,(Qg rfl),(Qg (by simp[U8])),trivial⟩
 have C:=QwB (name:=name) (cover:=cover) (i:=k)
 have P:=Qya (m:=ws.length) (i:=k)
 have F:(ws++U8 name cover k).length=ws.length+k:=by rw[ai,C]
 refine w4 ?_
 cases r:(decide ((k:Int)<(cover.length:Int)))
 have t:=ab r
 refine w3 ?_
 apply dW (i7 73 _ _ _ _ _ _ _ (⟨some 80,lR 7,[ar 7 147 Zm ([(name,3,orI ws.length k,[])]),(5,none)]⟩::⟨some 81,lR 8,[ar 8 147 Zm ((ws++U8 name cover k)++([(name,3,orI ws.length k,[])])),(6,none),(7,none)]⟩::i3 82 _ _ _ [⟨none,lf (.val undef),[bx 0 346 [.ref 1,.ref 8]]⟩])) [0,1,1,1,1,1,63,63,1,0,0,0,0]
 refine z7 ?_
 refine zz (fun _ d=>ac (YK 7 (e:=Zm) X4 YU Xa rfl ⟨_,_,rfl,(d.w rfl),rfl⟩ (ao.1 (by show ((QH _ [dS name,dI 3,.ref 5,.val (.slice none 0 0)]&&true))=true;simp only[QH,Xh,aV,bo];rw[(d.en 5 rfl)];rfl)) ⟨_,_,_,_,rfl,⟨[dS name],[dI 3,.ref 5,.val (.slice none 0 0)],_,_,_,_,rfl,rfl,⟨rfl,rfl⟩,⟨[dI 3],[.ref 5,.val (.slice none 0 0)],_,_,_,_,rfl,rfl,⟨rfl,rfl⟩,⟨[.ref 5],[.val (.slice none 0 0)],_,_,_,_,rfl,rfl,(.inl ⟨_,rfl,(d.en 5 rfl),rfl⟩),(.inr ⟨rfl,rfl,rfl⟩),rfl⟩,rfl⟩,rfl⟩,⟨rfl,rfl⟩,rfl⟩ (by decide) rfl rfl (d.fr 7 rfl) (nlr rfl)) rfl)<|zz (fun _ d=>ac (dA 8 Qb9) rfl)<|z3 ?_
 exact zz (fun _ d=>ac (QR (d.v rfl) (d.en 0 rfl) (d.w rfl) (by show QH _ [.ref 8]=true;simp only[QH,Xh,aV,bo];rw[(d.en 8 rfl)];rfl) QjT rfl) rfl)<|zN
 refine Q5 ?_
 have E:((ws++U8 name cover k)++([(name,3,orI ws.length k,[])]:List DWr)).length=ws.length+k+1:=by rw[ai,F];rfl
 refine w11 ?_
 have I:((((ws++U8 name cover k)++([(name,3,orI ws.length k,[])])).length:Int) - 1:Int)=((ws.length:Int)+(cover.length:Int)):=by
  (have d:=E;omega)
 exact fi_ [(2,8)] L ⟨rfl,rfl,(Qg (by (rw[show k=cover.length by omega];rfl))),trivial⟩ (h0:=by rw[I] <;> rfl)
 have t:=aa r
 refine w6 ?_
 obtain ⟨f,B⟩:=gx cover k
 have D:=B
 have N:=M.2 _ (ah B)
 have O:=HQ (k:Int)
 refine w7 ?_
 refine lc (QX (Qa rfl) (Evl.str rfl) rfl (by first|omega|(simp only[aE,ZJ];omega)))<|w_ ?_
 refine lc (dK (Ka (k:Int) (by omega)) Jg)<|lc (QX (Qa rfl) (Qa rfl) rfl (by first|omega|(simp only[aE,ZJ];omega)))<|lc (Qh QbZ ⟨_,_,rfl,(Qm rfl),⟨_,_,rfl,(Evl.ev (Qn rfl)),rfl⟩⟩ (ao.1 rfl) rfl rfl)<|lc (xal 9 Zm Xa)<|w7 ?_
 refine AC.wk (Qo 10 (p:=9) (off:=2) 207 Q0 rfl rfl (Fresh.of rfl) (nlr rfl))<|lp0 f.size (fun i=>⟨[(0,lP 0 0),(1,lf (dS name)),(6,lI 0),(7,lP 3 0),(9,lf (dS f)),(10,lP 9 0),(11,lI (i:Int)),(14,lf (.dat Qd cover)),(15,lI (cover.length:Int)),(16,lI (k:Int))],[bx 0 346 [.ref 1,.ref 6],ar 1 103 QG ss,bx 3 147 [dS name,dI 3,.ref 5,.val (.slice none 0 0)],ar 5 207 Q0 (orI ws.length k),ar 6 147 Zm (ws++U8 name cover k),bx 9 147 [dS ((name++(⟨#[97]⟩:BA))++(YX (k:Int))),dI 2,.ref 11,.val (.slice none 0 0)],ar 11 207 Q0 (Qcw f i)]⟩) ?_ fun i _=> ?_
 exact wp [(11,10)] ⟨rfl,rfl,rfl,rfl,rfl,rfl,(Qg rfl),trivial⟩
 have Q:=Qye (cube:=f) (m:=i)
 refine w7 ?_
 cases y:(decide ((i:Int)<(f.size:Int)))
 have z:=ab y
 refine w3 ?_
 apply dW (i8 48 _ _ _ _ _ _ _ _ [io 56 (ag [dI ((ws++U8 name cover k).length:Int),dB false]),⟨some 57,lR 12,[ar 12 207 Q0 ([(((ws++U8 name cover k).length:Int),false)])]⟩,⟨some 58,lR 13,[ar 13 207 Q0 ((orI ws.length k)++([(((ws++U8 name cover k).length:Int),false)])),(5,none),(12,none)]⟩,io 59 _,⟨none,lf (.val undef),[bx 3 147 [dS name,dI 3,.ref 13,.val (.slice none 0 0)]]⟩]) [0,0,3,3,3,3,3,3,3,3,0,0,0]
 refine z8 ?_
 refine zz (fun _ d=>ac (Qh Qb1 ⟨_,_,rfl,(d.w rfl),rfl⟩ (ao.1 rfl) rfl rfl) rfl)<|zz (fun _ d=>ac (dBs 12 (e:=Q0) Qaz (hab:=by exact ⟨_,_,_,_,rfl,⟨[dI ((ws++U8 name cover k).length:Int)],[dB false],_,_,_,_,rfl,rfl,⟨rfl,rfl⟩,⟨rfl,rfl⟩,rfl⟩,⟨rfl,rfl⟩,rfl⟩)) rfl)<|zz (fun _ d=>ac (dA 13 Qo5) rfl)<|z_ ?_
 exact zz (fun _ d=>ac (QR (d.v rfl) (d.en 3 rfl) (d.w rfl) (by show QH _ [.ref 13]=true;simp only[QH,Xh,aV,bo];rw[(d.en 13 rfl)];rfl) U0 rfl) rfl)<|zN
 apply dV (i7 60 _ _ _ _ _ _ _ (⟨some 67,lR 14,[ar 14 147 Zm ([((name++(⟨#[97]⟩:BA))++(YX (k:Int)),2,Qcw f i,[])]),(11,none)]⟩::⟨some 68,lR 15,[ar 15 147 Zm ((ws++U8 name cover k)++([((name++(⟨#[97]⟩:BA))++(YX (k:Int)),2,Qcw f i,[])])),(6,none),(14,none)]⟩::i3 69 _ _ _ [⟨none,lf (.val undef),[bx 0 346 [.ref 1,.ref 15]]⟩])) [0,1,1,1,1,1,63,63,1,0,0,0,0]
 refine z7 ?_
 refine zz (fun _ d=>ac (YK 14 (e:=Zm) X4 YU Xa rfl ⟨_,_,rfl,(d.w rfl),rfl⟩ (ao.1 (by show ((QH _ [dS ((name++(⟨#[97]⟩:BA))++(YX (k:Int))),dI 2,.ref 11,.val (.slice none 0 0)]&&true))=true;simp only[QH,Xh,aV,bo];rw[(d.en 11 rfl)];rfl)) ⟨_,_,_,_,rfl,⟨[dS ((name++(⟨#[97]⟩:BA))++(YX (k:Int)))],[dI 2,.ref 11,.val (.slice none 0 0)],_,_,_,_,rfl,rfl,⟨rfl,rfl⟩,⟨[dI 2],[.ref 11,.val (.slice none 0 0)],_,_,_,_,rfl,rfl,⟨rfl,rfl⟩,⟨[.ref 11],[.val (.slice none 0 0)],_,_,_,_,rfl,rfl,(.inl ⟨_,rfl,(d.en 11 rfl),rfl⟩),(.inr ⟨rfl,rfl,rfl⟩),rfl⟩,rfl⟩,rfl⟩,⟨rfl,rfl⟩,rfl⟩ (by decide) rfl rfl (d.fr 14 rfl) (nlr rfl)) rfl)<|zz (fun _ d=>ac (dA 15 Qb9) rfl)<|z3 ?_
 exact zz (fun _ d=>ac (QR (d.v rfl) (d.en 0 rfl) (d.w rfl) (by show QH _ [.ref 15]=true;simp only[QH,Xh,aV,bo];rw[(d.en 15 rfl)];rfl) QjT rfl) rfl)<|zN
 refine w4 ?_
 exact Qc<|l0_<|wp [(5,13),(6,15)] ⟨rfl,rfl,rfl,(Qg (by exact QGo rfl)),(Qg (by exact QCy D (by rw[show i=f.size by omega]) rfl)),trivial⟩
 have z:=aa y
 refine w7 ?_
 obtain ⟨u,A⟩:=gs f (((i:Int)).toNat)
 have G:=QU A
 refine w_ ?_
 refine lc (QW (Qa rfl) (QS 45 rfl) rfl)<|w_ ?_
 cases o:(!decide (u=45))
 have q:(u=45):=QB o
 refine w7 ?_
 exact Qc<|l0_<|wp [] ⟨rfl,rfl,rfl,rfl,rfl,rfl,(Qg (by exact QD4 G ‹_›)),trivial⟩
 have q:¬(u=45):=QL o
 refine w_ ?_
 apply dV (i6 37 _ _ _ _ _ _ [io 43 (lB (decide (u=48))),io 44 (ag [dI (i:Int),dB (decide (u=48))]),⟨some 45,lR 16,[ar 16 207 Q0 ([((i:Int),decide (u=48))])]⟩,⟨some 46,lR 17,[ar 17 207 Q0 ((Qcw f i)++([((i:Int),decide (u=48))])),(11,none),(16,none)]⟩,io 47 _,⟨none,lf (.val undef),[bx 9 147 [dS ((name++(⟨#[97]⟩:BA))++(YX (k:Int))),dI 2,.ref 17,.val (.slice none 0 0)]]⟩]) [0,0,3,7,15,7,7,3,3,0,0,0]
 refine z6 ?_
 refine zz (fun _ d=>ac (Zf (d.v rfl) (QS 48 rfl) rfl) rfl)<|zz (fun _ d=>ac (Qh Qb1 ⟨_,_,rfl,(d.w rfl),⟨_,_,rfl,(d.w rfl),rfl⟩⟩ (ao.1 rfl) rfl rfl) rfl)<|zz (fun _ d=>ac (dBs 16 (e:=Q0) Qaz (hab:=by exact ⟨_,_,_,_,rfl,⟨[dI (i:Int)],[dB (decide (u=48))],_,_,_,_,rfl,rfl,⟨rfl,rfl⟩,⟨rfl,rfl⟩,rfl⟩,⟨rfl,rfl⟩,rfl⟩)) rfl)<|zz (fun _ d=>ac (dA 17 Qo5) rfl)<|z_ ?_
 exact zz (fun _ d=>ac (QR (d.v rfl) (d.en 9 rfl) (d.w rfl) (by show QH _ [.ref 17]=true;simp only[QH,Xh,aV,bo];rw[(d.en 17 rfl)];rfl) U0 rfl) rfl)<|zN
 refine w5 ?_
 exact Qc<|l0_<|wp [(11,17)] ⟨rfl,rfl,rfl,rfl,rfl,rfl,(Qg (by exact QD5 G ‹_›)),trivial⟩
section
variable {c:DSg}{l:List DRc}{k i p h:Nat}{m:DRc}{s:Qs}{g:DGt}{x:DCk}
def QAo {α:Type}{f:DRc→α}(d:l[2*i+p]? =some m):evL f l p i++[f m]=evL f l p (i+1):=by rw[evL,d]
def Qnz {α:Type}{f:DRc→α}:(evL f l p i).length≤i:=by
 induction i with
 | zero=>exact aP _
 | succ i d=>rw[evL,ai];split <;> simp <;> omega
def QiY {α:Type}{f:DRc→α}(o:2*i≤l.length)(q:p≤1):(evL f l p i).length=i:=by
 induction i with
 | zero=>rfl
 | succ i e=>
  rw[evL,ai,e (by omega)]
  obtain ⟨m,d⟩:∃m,l[2*i+p]? =some m:=⟨_,ak (by omega)⟩
  rw[d];rfl
def QnA {α:Type}{f:DRc→α}{y:α}(d:y∈evL f l p i):∃m∈l,f m=y:=by
 induction i with
 | zero=>cases d
 | succ i o=>
  rw[evL,aO] at d
  rcases d with d|d
  ·exact o d
  ·split at d
   ·rename_i m e
    exact ⟨m,ah e,(aI.1 d).symm⟩
   ·cases d
def Qzv (h:Z4 x.1):x.1.length≤8∧∀s∈x.1,s.1.size≤1000:=by
 refine ⟨h.2.2,fun s e=> ?_⟩
 have d:=Qzu h
 have:=d s e
 omega
def Qo1 {n:Int}{l:List BA}(h:ZZ n l):l.length≤300∧∀y∈l,y.size≤1000:=⟨by have:=h.2.1;omega,fun y d=>by have:=(h.2.2 y d).2;omega⟩
def Qz8 (h:Xm x):(x.2.map fun g=>g.1).length≤8∧(∀y∈x.2.map fun g=>g.1,0≤y∧y<(x.1.length:Int))∧(∀a∈x.2.map fun g=>g.2.2.1,a.length≤300∧∀y∈a,y.size≤1000)∧(∀a∈x.2.map fun g=>g.2.2.2,a.length≤300∧∀y∈a,y.size≤1000):=by
 refine ⟨by rw[aC];exact (Qtx h).2.2,fun y f=> ?_,fun a e=> ?_,fun a e=> ?_⟩
 ·obtain ⟨g,d,rfl⟩:=aW.1 f
  have o:=QCO h d
  omega
 ·obtain ⟨g,d,rfl⟩:=aW.1 e
  exact Qo1 (h.2 g d).1.2
 ·obtain ⟨g,d,rfl⟩:=aW.1 e
  exact Qo1 (h.2 g d).2.1
variable [∀c,Decidable (SgOk c)]
def Qz2 (h:AmP c l)(o:amV c l=true):l.length=2*(Qt c.1 c.1.length).length∧(Qt c.1 c.1.length).length≤8∧∀m∈l,(0≤m.1∧m.1<(c.1.length:Int))∧m.2.2.length≤300∧∀y∈m.2.2,y.size≤1000:=by
 have D:=QtT h.2
 have E:=Qfx (Qt c.1 c.1.length)
 have F:(egL c).length=((Qt c.1 c.1.length).flatMap egF).length:=rfl
 have G:=XQ (ss:=c.1) (k:=c.1.length)
 have H:=h.1.1.sigs.2.2
 refine ⟨by omega,by omega,fun m t=> ?_⟩
 obtain ⟨k,B⟩:=aG.1 t
 have I:=QtU h.2 B
 unfold amV at o
 rw[aH] at o
 have q:=ao.1 o.2 m t
 unfold am1 at q
 rw[aH,bI] at q
 have e:=Qjy (l:=elE m) fun a A=>We (h.1.1.arcs a A)
 have v:=h.1.1.some_
 refine ⟨by omega,?_,fun y C=> ?_⟩
 ·have z:(rg1 c (elE m)).length≤c.2.1.length:=e
  omega
 ·obtain ⟨i,r⟩:=aG.1 C
  have d:=ao.1 q.2 i (bC.2 (ae.1 r).1)
  rw[QiG r,aH,bI] at d
  have f:=d.1.2
  have:=f.2
  omega
end
def bmP [∀c,Decidable (SgOk c)](c:DSg)(l:List DRc):Prop:=(AmP c l∧amV c l=true)∧QV (mmM c l (Qt c.1 c.1.length).length)
noncomputable def bmV [∀c,Decidable (SgOk c)] [∀n,Decidable (QV n)] (c:DSg) (l:List DRc):DNl:=if (AmP c l∧amV c l=true)∧QV (mmM c l (Qt c.1 c.1.length).length) then mmM c l (Qt c.1 c.1.length).length else ([],[])
section
variable [∀c,Decidable (SgOk c)][∀n,Decidable (QV n)]{c:DSg}{l:List DRc}
def QwS (h:(AmP c l∧amV c l=true)∧QV (mmM c l (Qt c.1 c.1.length).length)):(mmM c l (Qt c.1 c.1.length).length).1=(bmV c l).1∧(mmM c l (Qt c.1 c.1.length).length).2=(bmV c l).2∧true=decide ((AmP c l∧amV c l=true)∧QV (mmM c l (Qt c.1 c.1.length).length)):=by
 unfold bmV;rw[if_pos h,ay h];exact ⟨rfl,rfl,rfl⟩
def QiL (h:¬((AmP c l∧amV c l=true)∧QV (mmM c l (Qt c.1 c.1.length).length))):[]=(bmV c l).1∧[]=(bmV c l).2∧false=decide ((AmP c l∧amV c l=true)∧QV (mmM c l (Qt c.1 c.1.length).length)):=by
 unfold bmV;rw[if_neg h,aj h];exact ⟨rfl,rfl,rfl⟩
end
def VN (ss:QqS)(sigs:List Int)(sets:List (List BA))(resets:List (List BA))[∀n,Decidable (QV n)](hs:ss.length≤8∧∀x∈ss,x.1.size≤1000)(W:sigs.length≤8∧∀x∈sigs,0≤x∧x<(ss.length:Int))(hl:sets.length=sigs.length∧resets.length=sigs.length)(O:∀a∈sets,a.length≤300∧∀x∈a,x.size≤1000)(hb:∀a∈resets,a.length≤300∧∀x∈a,x.size≤1000):FC prog 289 [(false,[.dat Qj ss]),(false,[.dat Qv sigs]),(false,[.dat Qa0 sets]),(false,[.dat Qa0 resets])] [] 0 (Is (PV.tup [(true,[.ref 0,.ref 1]),(false,[dB (decide (QV (Qhq ss sigs sets resets)))])]) [ar 0 103 QG ((Qhq ss sigs sets resets).1),ar 1 147 Zm ((Qhq ss sigs sets resets).2)]):=by
 refine Ql func289 rfl rfl ntmps289 fun O_ V a1 R X_ U T=>w_ ?_
 refine lc (xal 0 J6 Xb)<|w3 ?_
 refine lc (dBs 1 (e:=QG) WO)<|w_ ?_
 refine lc (Zg 2 (Qa rfl) rfl (Evl.rep (Qa rfl)) rfl QdH K7 (by first|omega|(simp only[ai,aC,au,av,aB];omega)|(simp only[ai,aX,au,av,aB];omega)) rfl (Fresh.of rfl) (nlr rfl))<|lc (Qh Hk ⟨_,_,rfl,(Qm rfl),rfl⟩ (ao.1 rfl) rfl rfl)<|lc (Qh QwR ⟨_,_,rfl,(Qm rfl),rfl⟩ (ao.1 rfl) rfl rfl)<|xbx 3 ?_
 refine w9 ?_
 refine AC.wk (Qo 4 (p:=3) (off:=1) 147 Zm rfl rfl (Fresh.of rfl) (nlr rfl))<|lp0 ss.length (fun k=>⟨[(1,lf (.dat Qv sigs)),(2,lf (.dat Qa0 sets)),(3,lf (.dat Qa0 resets)),(8,lP 0 0),(9,lB false),(10,lP 3 0),(24,lf (.dat Qj ss)),(25,lI (ss.length:Int)),(26,lI (k:Int))],[bx 0 48 [.val (.slice none 0 0),.val (.slice none 0 0)],ar 2 103 QG (([])++ss),bx 3 346 [.ref 2,.ref 5],ar 5 147 Zm (Qgn ss k)]⟩) ?_ fun k _=> ?_
 exact wp [(5,4)] ⟨rfl,rfl,rfl,(Qg rfl),trivial⟩
 have X:(Qgn ss k).length≤k:=by simp only[Qgn,aC,au];omega
 refine w4 ?_
 cases B:(decide ((k:Int)<(ss.length:Int)))
 have C:=ab B
 refine w10 ?_
 refine lp0 sigs.length (fun i=>⟨[(2,lf (.dat Qa0 sets)),(3,lf (.dat Qa0 resets)),(8,lP 0 0),(9,lB false),(10,lP 3 0),(50,lf (.dat Qv sigs)),(51,lI (sigs.length:Int)),(52,lI (i:Int))],[bx 0 48 [.val (.slice none 0 0),.val (.slice none 0 0)],ar 2 103 QG (([])++ss),bx 3 346 [.ref 2,.ref 6],ar 6 147 Zm (WQ ss sigs sets resets i)]⟩) ?_ fun i _=> ?_
 exact wp [(6,5)] ⟨rfl,rfl,rfl,(Qg (by (rw[show k=ss.length by omega];rfl))),trivial⟩
 have Y:=Qx0 (ss:=ss) (sigs:=sigs) (i:=i) (fun a h=>(O a h).1) (fun a h=>(hb a h).1)
 refine w4 ?_
 cases D:(decide ((i:Int)<(sigs.length:Int)))
 have E:=ab D
 refine w3 ?_
 apply dW (i8 89 _ _ _ _ _ _ _ _ [io 97 (lB (decide (QV (([])++ss,WQ ss sigs sets resets i)))),⟨none,lf (.val undef),[bx 0 48 [.ref 2,.ref 6]]⟩,io 9 _]) [0,0,0,0,15,15,15,15,15,0,0]
 refine z8 ?_
 exact zz (fun _ d=>ac (WV (VF (([])++ss,WQ ss sigs sets resets i)) Qc9 ⟨_,_,rfl,(Hd (d.w rfl) ⟨_,_,rfl,.inr ⟨_,_,_,_,rfl,(d.n 2 rfl),rfl⟩,⟨_,_,rfl,.inr ⟨_,_,_,_,rfl,(d.n 6 rfl),rfl⟩,rfl⟩⟩),rfl⟩ rfl rfl rfl) rfl)<|zz (fun _ d=>ac (QR (d.v rfl) (d.en 0 rfl) (d.w rfl) (by show QH _ [.ref 2,.ref 6]=true;simp only[QH,Xh,aV,bo];rw[(d.en 2 rfl),(d.en 6 rfl)];rfl) VJ rfl) rfl)<|y1
 refine w_ ?_
 have S:(decide (QV (([])++ss,WQ ss sigs sets resets i)):Bool)=(decide (QV (Qhq ss sigs sets resets))):=by
  (rw[show i=sigs.length by omega];rfl)
 exact fi_ [(0,2),(1,6)] V ⟨(Qg (by rfl)),(Qg (by (rw[show i=sigs.length by omega];rfl))),trivial⟩ (h0:=by rw[S] <;> rfl)
 have E:=aa D
 refine w6 ?_
 obtain ⟨sig,L⟩:=gx sigs i
 have H:=L
 have a0:=W.2 _ (ah L)
 have Z:=HQ sig
 refine w2 ?_
 refine alI 56 fun _=> ?_
 refine w3 ?_
 obtain ⟨f,q⟩:=gx sets i
 have N:=q
 have I:=O _ (ah q)
 apply dW (i2 57 _ _ (io 59 (lf (dS (YX sig)))::io 60 (lf (dS ((⟨#[115]⟩:BA)++(YX sig))))::i4 61 _ _ _ _ [⟨some 65,lI (((WQ ss sigs sets resets i).length:Int)+(f.length:Int)),[bx 3 346 [.ref 2,.ref 9],ar 2 103 QG (([])++ss),ar 9 147 Zm (orL (WQ ss sigs sets resets i) ((⟨#[115]⟩:BA)++(YX sig)) f),(3,none),(2,none),(6,none)]⟩,io 16 _])) [0,1,1,1,15,31,15,15,0,0]
 refine z2 ?_
 refine zz (fun _ d=>ac (dK (Ka sig (by omega)) Jg) rfl)<|zz (fun _ d=>ac (QX (Evl.str rfl) (d.v rfl) rfl (by first|omega|(have d:=HQ sig;simp only[aE,ZJ];omega))) rfl)<|z4 ?_
 refine zz (fun _ d=>ac (dP 7 [(0,3),(1,2),(2,6)] (JJ (([])++ss) (WQ ss sigs sets resets i) ((⟨#[115]⟩:BA)++(YX sig)) f (by first|exact I|exact F) (by first|omega|(simp only[aE,ZJ];omega)|(refine ⟨?_,?_⟩;(rw[HS];omega);simp only[aE,ZJ];omega))) Qf2) rfl) ?_
 exact y1
 obtain ⟨y,r⟩:=gx resets i
 have M:=r
 have F:=hb _ (ah r)
 apply dW (i2 66 _ _ (io 68 (lf (dS (YX sig)))::io 69 (lf (dS ((⟨#[114]⟩:BA)++(YX sig))))::i4 70 _ _ _ _ [⟨some 74,lI (((orL (WQ ss sigs sets resets i) ((⟨#[115]⟩:BA)++(YX sig)) f).length:Int)+(y.length:Int)),[bx 3 346 [.ref 2,.ref 12],ar 2 103 QG (([])++ss),ar 12 147 Zm (orL (orL (WQ ss sigs sets resets i) ((⟨#[115]⟩:BA)++(YX sig)) f) ((⟨#[114]⟩:BA)++(YX sig)) y),(3,none),(2,none),(9,none)]⟩,io 17 _])) [0,1,1,1,15,31,15,15,0,0]
 refine z2 ?_
 refine zz (fun _ d=>ac (dK (Ka sig (by omega)) Jg) rfl)<|zz (fun _ d=>ac (QX (Evl.str rfl) (d.v rfl) rfl (by first|omega|(have d:=HQ sig;simp only[aE,ZJ];omega))) rfl)<|z4 ?_
 refine zz (fun _ d=>ac (dP 10 [(0,3),(1,2),(2,9)] (JJ (([])++ss) (orL (WQ ss sigs sets resets i) ((⟨#[115]⟩:BA)++(YX sig)) f) ((⟨#[114]⟩:BA)++(YX sig)) y (by first|exact I|exact F) (by first|omega|(simp only[aE,ZJ];omega)|(refine ⟨?_,?_⟩;(rw[HS];omega);simp only[aE,ZJ];omega))) Qf2) rfl) ?_
 exact y1
 have P:=HS (ws:=WQ ss sigs sets resets i) (name:=((⟨#[115]⟩:BA)++(YX sig))) (cover:=f)
 have Q:=HS (ws:=(orL (WQ ss sigs sets resets i) ((⟨#[115]⟩:BA)++(YX sig)) f)) (name:=((⟨#[114]⟩:BA)++(YX sig))) (cover:=y)
 refine w8 ?_
 refine lc (Qh Qb1 ⟨_,_,rfl,(Qm rfl),rfl⟩ (ao.1 rfl) rfl rfl)<|w_ ?_
 refine lc (Qh Qb1 ⟨_,_,rfl,(Qm rfl),rfl⟩ (ao.1 rfl) rfl rfl)<|lc (dBs 13 (e:=Q0) Qaz (hab:=by exact ⟨_,_,_,_,rfl,⟨[dI (((WQ ss sigs sets resets i).length:Int)+(f.length:Int))],[dB false],_,_,_,_,rfl,rfl,⟨rfl,rfl⟩,⟨rfl,rfl⟩,rfl⟩,⟨_,_,_,_,rfl,⟨[dI (((orL (WQ ss sigs sets resets i) ((⟨#[115]⟩:BA)++(YX sig)) f).length:Int)+(y.length:Int))],[dB false],_,_,_,_,rfl,rfl,⟨rfl,rfl⟩,⟨rfl,rfl⟩,rfl⟩,⟨rfl,rfl⟩,rfl⟩,rfl⟩))<|lc (Qw (e:=Zm) (Qa rfl) rfl (Qa rfl) X4 YU rfl (by omega) (by first|omega|(simp only[ax];omega)))<|w_ ?_
 obtain ⟨A,J⟩:=gx (orL (orL (WQ ss sigs sets resets i) ((⟨#[115]⟩:BA)++(YX sig)) f) ((⟨#[114]⟩:BA)++(YX sig)) y) ((sig).toNat)
 refine lc (Vl (e:=Zm) (t:=XY) (z':=(A.1,A.2.1,[((((WQ ss sigs sets resets i).length:Int)+(f.length:Int)),false),((((orL (WQ ss sigs sets resets i) ((⟨#[115]⟩:BA)++(YX sig)) f).length:Int)+(y.length:Int)),false)],A.2.2.2)) (x0:=[((((WQ ss sigs sets resets i).length:Int)+(f.length:Int)),false),((((orL (WQ ss sigs sets resets i) ((⟨#[115]⟩:BA)++(YX sig)) f).length:Int)+(y.length:Int)),false)]) (used:=[13]) (Qa rfl) rfl J (Qm rfl) rfl (.inl ⟨_,rfl,rfl,rfl⟩) (by decide) U0 rfl rfl)<|Qc<|w4 ?_
 exact Qc<|l0_<|wp [(6,12)] ⟨rfl,(Qg rfl),rfl,(Qg (by exact (QDE ‹_›).trans (QA5 H N M))),trivial⟩
 have C:=aa B
 refine w5 ?_
 obtain ⟨sg,K⟩:=gx ss k
 have G:=K
 refine w2 ?_
 refine lc (xal 14 QG WO)<|w5 ?_
 refine lc (Qh QbZ ⟨_,_,rfl,(Qm rfl),⟨_,_,rfl,(Evl.ev (Qn rfl)),rfl⟩⟩ (ao.1 rfl) rfl rfl)<|lc (xal 15 Zm Xa)<|w8 ?_
 cases o:(!decide (sg.2=1))
 have z:(sg.2=1):=QB o
 refine w2 ?_
 apply dV (i7 37 _ _ _ _ _ _ _ (⟨some 44,lR 16,[ar 16 147 Zm ([(sg.1,1,[],[])])]⟩::⟨some 45,lR 17,[ar 17 147 Zm ((Qgn ss k)++([(sg.1,1,[],[])])),(5,none),(16,none)]⟩::i3 46 _ _ _ [⟨none,lf (.val undef),[bx 3 346 [.ref 2,.ref 17]]⟩])) [0,1,1,1,1,1,63,63,1,0,0,0,0]
 refine z7 ?_
 refine zz (fun _ d=>ac (dBs 16 (e:=Zm) Xa (hab:=by exact ⟨_,_,_,_,rfl,⟨[dS sg.1],[dI 1,.val (.slice none 0 0),.val (.slice none 0 0)],_,_,_,_,rfl,rfl,⟨rfl,rfl⟩,⟨[dI 1],[.val (.slice none 0 0),.val (.slice none 0 0)],_,_,_,_,rfl,rfl,⟨rfl,rfl⟩,⟨[.val (.slice none 0 0)],[.val (.slice none 0 0)],_,_,_,_,rfl,rfl,(.inr ⟨rfl,rfl,rfl⟩),(.inr ⟨rfl,rfl,rfl⟩),rfl⟩,rfl⟩,rfl⟩,⟨rfl,rfl⟩,rfl⟩)) rfl)<|zz (fun _ d=>ac (dA 17 Qb9) rfl)<|z3 ?_
 exact zz (fun _ d=>ac (QR (d.v rfl) (d.en 3 rfl) (d.w rfl) (by show QH _ [.ref 17]=true;simp only[QH,Xh,aV,bo];rw[(d.en 17 rfl)];rfl) QjT rfl) rfl)<|zN
 refine w4 ?_
 exact Qc<|l0_<|wp [(5,17)] ⟨rfl,rfl,rfl,(Qg (by exact Qzq G (if_pos ‹_›).symm)),trivial⟩
 have z:¬(sg.2=1):=QL o
 refine w5 ?_
 apply dV (i7 37 _ _ _ _ _ _ _ (⟨some 44,lR 18,[ar 18 147 Zm ([(sg.1,4,[],[])])]⟩::⟨some 45,lR 19,[ar 19 147 Zm ((Qgn ss k)++([(sg.1,4,[],[])])),(5,none),(18,none)]⟩::i3 46 _ _ _ [⟨none,lf (.val undef),[bx 3 346 [.ref 2,.ref 19]]⟩])) [0,1,1,1,1,1,63,63,1,0,0,0,0]
 refine z7 ?_
 refine zz (fun _ d=>ac (dBs 18 (e:=Zm) Xa (hab:=by exact ⟨_,_,_,_,rfl,⟨[dS sg.1],[dI 4,.val (.slice none 0 0),.val (.slice none 0 0)],_,_,_,_,rfl,rfl,⟨rfl,rfl⟩,⟨[dI 4],[.val (.slice none 0 0),.val (.slice none 0 0)],_,_,_,_,rfl,rfl,⟨rfl,rfl⟩,⟨[.val (.slice none 0 0)],[.val (.slice none 0 0)],_,_,_,_,rfl,rfl,(.inr ⟨rfl,rfl,rfl⟩),(.inr ⟨rfl,rfl,rfl⟩),rfl⟩,rfl⟩,rfl⟩,⟨rfl,rfl⟩,rfl⟩)) rfl)<|zz (fun _ d=>ac (dA 19 Qb9) rfl)<|z3 ?_
 exact zz (fun _ d=>ac (QR (d.v rfl) (d.en 3 rfl) (d.w rfl) (by show QH _ [.ref 19]=true;simp only[QH,Xh,aV,bo];rw[(d.en 19 rfl)];rfl) QjT rfl) rfl)<|zN
 refine w4 ?_
 exact Qc<|l0_<|wp [(5,19)] ⟨rfl,rfl,rfl,(Qg (by exact Qzq G (if_neg ‹_›).symm)),trivial⟩
theorem Vt (c:QtP)[∀c,Decidable (Xm c)][∀n,Decidable (QV n)](hl:c.2.length≤100000):FC prog 241 [(true,[.dat Qj c.1,.dat QdG c.2])] [] 0 (Is (PV.tup [(true,[.ref 0,.ref 1]),(false,[dB (bnB c)])]) [ar 0 103 QG ((bnV c).1),ar 1 147 Zm ((bnV c).2)]):=by
 refine Ql func241 rfl rfl ntmps241 fun O_ W d4 c1 X_ c3 c2=>w_ ?_
 refine xbx 0 ?_
 refine lc (xal 1 J6 Xb)<|w5 ?_
 refine lc (dK (Qed c hl) Qq7)<|w2 ?_
 cases X:(decide (Xm c))
 have Y:=ab X
 refine w2 ?_
 refine lc (Qh Hk rfl (ao.1 rfl) rfl rfl)<|w3 ?_
 refine AC.wk (Qo 2 (p:=1) (off:=0) 103 QG rfl rfl (Fresh.of rfl) (nlr rfl))<|AC.wk (Qo 3 (p:=1) (off:=1) 147 Zm rfl rfl (Fresh.of rfl) (nlr rfl))<|w_ ?_
 have e2:(false:Bool)=(bnB c):=by
  exact (Qz7 ‹_›).2.2
 exact fi_ [(0,2),(1,3)] W ⟨(Qg (by exact (Qz7 ‹_›).1)),(Qg (by exact (Qz7 ‹_›).2.1)),trivial⟩ (h0:=by rw[← e2] <;> rfl)
 have Y:=aa X
 refine w2 ?_
 refine Q5 ?_
 have d:=(by assumption:Xm c)
 have b4:=Qzv (x:=c) d.1.1
 have J:=Qz8 d
 have c5:=(Qtx d).2.2
 have c7:=Qpl (ss:=c.1)
 refine w5 ?_
 refine lc (dBs 4 (e:=QG) WO)<|w2 ?_
 refine lc (Zg 5 (Qa rfl) rfl (Evl.rep (Qa rfl)) rfl QdH K7 (by first|omega|(simp only[ai,aC,au,av,aB];omega)|(simp only[ai,aX,au,av,aB];omega)) rfl (Fresh.of rfl) (nlr rfl))<|lc (Qh Hk ⟨_,_,rfl,(Qm rfl),rfl⟩ (ao.1 rfl) rfl rfl)<|lc (xal 6 J6 Xb)<|w10 ?_
 refine AC.wk (Qo 7 (p:=6) (off:=1) 147 Zm rfl rfl (Fresh.of rfl) (nlr rfl))<|lp0 c.1.length (fun k=>⟨[(1,lP 0 0),(2,lP 1 0),(3,lB false),(4,lB true),(5,lB true),(6,lP 6 0),(25,lf (.dat Qj c.1)),(26,lI (c.1.length:Int)),(27,lI (k:Int))],[bx 0 32 [.dat Qj c.1,.dat QdG c.2],bx 1 48 [.val (.slice none 0 0),.val (.slice none 0 0)],ar 5 103 QG (([])++c.1),bx 6 48 [.ref 5,.ref 8],ar 8 147 Zm (Qhp c.1 k)]⟩) ?_ fun k _=> ?_
 exact wp [(8,7)] ⟨rfl,rfl,rfl,rfl,(Qg (rfl)),trivial⟩
 have d0:(Qhp c.1 k).length≤k:=by simp only[Qhp,aC,au];omega
 refine w4 ?_
 cases Z:(decide ((k:Int)<(c.1.length:Int)))
 have a0:=ab Z
 refine w16 ?_
 refine w2 ?_
 refine AC.wk (Wk.nilS 9 10 25 Qd rfl (Fresh.of rfl) (nlr rfl))<|AC.wk (Y6 (q:=9) rfl)<|AC.wk (Wk.nilS 10 11 25 Qd rfl (Fresh.of rfl) (nlr rfl))<|AC.wk (Y6 (q:=10) rfl)<|AC.wk (Wk.nilS 12 9 3 .int rfl (Fresh.of rfl) (nlr rfl))<|Qy (fun m_ M=>∃(i:Nat) (I:Bool) (G:Bool) (C:List (BA×Int×(List (Int×Bool))×List BA)) (A:List Int) (B:List (List BA)) (z:List (List BA)),i≤c.2.length∧m_=c.2.length - i∧(I=(c.2.take i).all fun g=>decide (g.2.1=1))∧(G=(c.2.take i).all fun g=>decide (g.2.1=2))∧(C=Qha c i)∧(A=(c.2.take i).map fun g=>g.1)∧(B=(c.2.take i).map fun g=>g.2.2.1)∧(z=(c.2.take i).map fun g=>g.2.2.2)∧M=⟨[(1,lP 0 0),(2,lP 1 0),(3,lB false),(4,lB I),(5,lB G),(6,lP 6 0),(9,lR 13),(10,lR 14),(11,lR 15),(41,lf (.dat QdG c.2)),(42,lI (c.2.length:Int)),(43,lI (i:Int))],[bx 0 32 [.dat Qj c.1,.dat QdG c.2],bx 1 48 [.val (.slice none 0 0),.val (.slice none 0 0)],ar 5 103 QG (([])++c.1),bx 6 48 [.ref 5,.ref 11],ar 11 147 Zm C,ar 13 3 .int A,(14,some (.res (zrR 25 Qd B))),(15,some (.res (zrR 25 Qd z)))]⟩) ⟨0,true,true,Qhp c.1 k,([]:(Qv:Ty).Den),([]:(Qa0:Ty).Den),([]:(Qa0:Ty).Den),aL _,rfl,rfl,rfl,(by rw[show k=c.1.length by omega];rfl),rfl,rfl,rfl,rfl⟩ ?_ ?_
 exact wp [(11,8),(13,12),(14,9),(15,10)] ⟨rfl,rfl,rfl,rfl,(Qg rfl),(Qg rfl),(UD rfl),(UD rfl),trivial⟩
 rintro m_ M ⟨i,I,G,C,A,B,z,c8,c9,f,o,T,R,Q,P,rfl⟩
 have d3:C.length=c.1.length:=by rw[T,Qqo]
 have d2:A.length≤i:=by rw[R,aC,au];omega
 have c4:B.length≤i:=by rw[Q,aC,au];omega
 have d1:z.length≤i:=by rw[P,aC,au];omega
 refine w4 ?_
 cases a1:(decide ((i:Int)<(c.2.length:Int)))
 have a2:=ab a1
 refine w12 ?_
 cases b7:(I)
 refine w3 ?_
 refine cb_ (fun _=> ?_) fun _=> ?_
 refine w8 ?_
 refine lc (Qh Hk rfl (ao.1 rfl) rfl rfl)<|w3 ?_
 refine AC.wk (Qo 16 (p:=1) (off:=0) 103 QG rfl rfl (Fresh.of rfl) (nlr rfl))<|AC.wk (Qo 17 (p:=1) (off:=1) 147 Zm rfl rfl (Fresh.of rfl) (nlr rfl))<|w_ ?_
 have a9:(false:Bool)=(bnB c):=by
  exact (QqG d ((Xo f (by omega)).trans (by first|assumption|rfl)) (fun q=>absurd (q.1.symm.trans ((Xo o (by omega)).trans (by first|assumption|rfl))) (by decide))).2.2
 exact fi_ [(0,16),(1,17)] W ⟨(Qg (by exact (QqG d ((Xo f (by omega)).trans (by first|assumption|rfl)) (fun q=>absurd (q.1.symm.trans ((Xo o (by omega)).trans (by first|assumption|rfl))) (by decide))).1)),(Qg (by exact (QqG d ((Xo f (by omega)).trans (by first|assumption|rfl)) (fun q=>absurd (q.1.symm.trans ((Xo o (by omega)).trans (by first|assumption|rfl))) (by decide))).2.1)),trivial⟩ (h0:=by rw[← a9] <;> rfl)
 obtain ⟨D,a3,a4,a5⟩:=QA8 R Q P (by omega)
 refine AC.wk (K1 (i:=10) (q:=14) rfl rfl)<|AC.wk (K1 (i:=11) (q:=15) rfl rfl)<|w6 ?_
 refine lc (Y0 18 (VN c.1 A B z b4 (by rw[a3];exact ⟨J.1,J.2.1⟩) (by rw[a3,a4,a5];simp) (by rw[a4];exact J.2.2.1) (by rw[a5];exact J.2.2.2)) QfW ⟨_,_,rfl,(Ev.b (Qm rfl)),⟨_,_,rfl,(Qa4 (Qa rfl) rfl),⟨_,_,rfl,(Ev.b (Qm rfl)),⟨_,_,rfl,(Ev.b (Qm rfl)),rfl⟩⟩⟩⟩ rfl rfl rfl ⟨Fresh.of rfl,Fresh.of rfl,trivial⟩ (nlr rfl))<|w11 ?_
 cases L:(decide (QV (Qhq c.1 A B z)))
 have O:=ab L
 refine w2 ?_
 refine lc (Qh Hk rfl (ao.1 rfl) rfl rfl)<|w3 ?_
 refine AC.wk (Qo 20 (p:=1) (off:=0) 103 QG rfl rfl (Fresh.of rfl) (nlr rfl))<|AC.wk (Qo 21 (p:=1) (off:=1) 147 Zm rfl rfl (Fresh.of rfl) (nlr rfl))<|w_ ?_
 have b0:(false:Bool)=(bnB c):=by
  exact (QqG d ((Xo f (by omega)).trans (by first|assumption|rfl)) (fun q=>absurd q.2 (by rw[← D];assumption))).2.2
 exact fi_ [(0,20),(1,21)] W ⟨(Qg (by exact (QqG d ((Xo f (by omega)).trans (by first|assumption|rfl)) (fun q=>absurd q.2 (by rw[← D];assumption))).1)),(Qg (by exact (QqG d ((Xo f (by omega)).trans (by first|assumption|rfl)) (fun q=>absurd q.2 (by rw[← D];assumption))).2.1)),trivial⟩ (h0:=by rw[← b0] <;> rfl)
 have O:=aa L
 refine w8 ?_
 have b1:(true:Bool)=(bnB c):=by
  exact (QwU d ((Xo f (by omega)).trans (by first|assumption|rfl)) ((Xo o (by omega)).trans (by first|assumption|rfl)) (by rw[← D];assumption)).2.2
 exact fi_ [(0,18),(1,19)] W ⟨(Qg (by (rw[D];exact (QwU d ((Xo f (by omega)).trans (by first|assumption|rfl)) ((Xo o (by omega)).trans (by first|assumption|rfl)) (by rw[← D];assumption)).1))),(Qg (by (rw[D];exact (QwU d ((Xo f (by omega)).trans (by first|assumption|rfl)) ((Xo o (by omega)).trans (by first|assumption|rfl)) (by rw[← D];assumption)).2.1))),trivial⟩ (h0:=by rw[← b1] <;> rfl)
 refine w16 ?_
 refine w2 ?_
 have b2:(true:Bool)=(bnB c):=by
  exact (QwT d ((Xo f (by omega)).trans (by first|assumption|rfl))).2.2
 exact fi_ [(0,5),(1,11)] W ⟨(Qg (by exact (QwT d ((Xo f (by omega)).trans (by first|assumption|rfl))).1)),(Qg (by (rw[T,QyW (by omega)];exact (QwT d ((Xo f (by omega)).trans (by first|assumption|rfl))).2.1))),trivial⟩ (h0:=by rw[← b2] <;> rfl)
 have a2:=aa a1
 refine w5 ?_
 obtain ⟨r,F⟩:=gx c.2 i
 have y:=F
 have c6:=(QCO d (ah F))
 have c0:=(Qo1 (d.2 _ (ah F)).1.2).1
 refine w2 ?_
 refine lc (xal 22 WN Qhd)<|w2 ?_
 refine Xc (fun M=>∃(H:Bool),(H=(c.2.take (i+1)).all fun g=>decide (g.2.1=1))∧M=⟨[(1,lP 0 0),(2,lP 1 0),(3,lB false),(4,lB H),(5,lB G),(6,lP 6 0),(9,lR 13),(10,lR 14),(11,lR 15),(13,lP 22 0),(41,lf (.dat QdG c.2)),(42,lI (c.2.length:Int)),(43,lI (i:Int))],[bx 0 32 [.dat Qj c.1,.dat QdG c.2],bx 1 48 [.val (.slice none 0 0),.val (.slice none 0 0)],ar 5 103 QG (([])++c.1),bx 6 48 [.ref 5,.ref 11],ar 11 147 Zm C,ar 13 3 .int A,(14,some (.res (zrR 25 Qd B))),(15,some (.res (zrR 25 Qd z))),bx 22 90 [dI r.1,dI r.2.1,.dat Qd r.2.2.1,.dat Qd r.2.2.2]]⟩) ?_ fun U=> ?_
 rintro M ⟨H,S,rfl⟩
 refine Xc (fun M=>∃(K:Bool),(K=(c.2.take (i+1)).all fun g=>decide (g.2.1=2))∧M=⟨[(1,lP 0 0),(2,lP 1 0),(3,lB false),(4,lB H),(5,lB K),(6,lP 6 0),(9,lR 13),(10,lR 14),(11,lR 15),(13,lP 22 0),(41,lf (.dat QdG c.2)),(42,lI (c.2.length:Int)),(43,lI (i:Int))],[bx 0 32 [.dat Qj c.1,.dat QdG c.2],bx 1 48 [.val (.slice none 0 0),.val (.slice none 0 0)],ar 5 103 QG (([])++c.1),bx 6 48 [.ref 5,.ref 11],ar 11 147 Zm C,ar 13 3 .int A,(14,some (.res (zrR 25 Qd B))),(15,some (.res (zrR 25 Qd z))),bx 22 90 [dI r.1,dI r.2.1,.dat Qd r.2.2.1,.dat Qd r.2.2.2]]⟩) ?_ fun V=> ?_
 rintro M ⟨K,b3,rfl⟩
 obtain ⟨N,a6⟩:=gx c.1 ((r.1).toNat)
 have b6:=a6
 obtain ⟨d5,a7⟩:=gx C ((r.1).toNat)
 apply dW (i9 59 _ _ _ _ _ _ _ _ _ (i4 68 _ _ _ _ [⟨some 72,lR 23,[ar 23 9 .str r.2.2.1]⟩,io 73 (ag [dS N.1,dI 5,.val (.slice none 0 0),.ref 23]),io 74 (lf (.ept 11 4 ((r.1).toNat) 0)),⟨none,lf (.val undef),[ar 11 147 Zm (C.set ((r.1).toNat) (N.1,5,[],r.2.2.1)),(23,none)]⟩])) [0,0,3,3,15,15,63,63,15,15,15,2047,2047,2047,15,0,0]
 refine z13 ?_
 exact zz (fun _ E=>ac (dO 23 (Uq r.2.2.1 (by have:=Qo1 (d.2 _ (ah y)).1.2;omega)) Qbm) rfl)<|zz (fun _ E=>ac (Qh QbZ ⟨_,_,rfl,(E.w rfl),⟨_,_,rfl,(Evl.ev (Qn rfl)),⟨_,_,rfl,(E.w rfl),rfl⟩⟩⟩ (ao.1 (by show ((QH _ [dS N.1]&&(QH _ [dI 5]&&(QH _ [.ref 23]&&true))))=true;simp only[QH,Xh,aV,bo];rw[(E.en 23 rfl)];rfl)) rfl rfl) rfl)<|zz (fun _ E=>ac (Qw (e:=Zm) (E.v rfl) (E.en 11 rfl) (E.v rfl) X4 YU rfl (by omega) (by first|omega|(simp only[ax];omega))) rfl)<|zz (fun _ E=>ac (Vl (e:=Zm) (t:=Zm) (z':=(N.1,5,[],r.2.2.1)) (x0:=(N.1,5,[],r.2.2.1)) (used:=[23]) (E.v rfl) (E.en 11 rfl) a7 (E.w rfl) (by show QH _ [dS N.1,dI 5,.val (.slice none 0 0),.ref 23]=true;simp only[QH,Xh,aV,bo];rw[(E.en 23 rfl)];rfl) ⟨[dS N.1],[dI 5,.val (.slice none 0 0),.ref 23],_,_,_,_,rfl,rfl,⟨rfl,rfl⟩,⟨[dI 5],[.val (.slice none 0 0),.ref 23],_,_,_,_,rfl,rfl,⟨rfl,rfl⟩,⟨[.val (.slice none 0 0)],[.ref 23],_,_,_,_,rfl,rfl,(.inr ⟨rfl,rfl,rfl⟩),(.inl ⟨_,rfl,(E.en 23 rfl),rfl⟩),rfl⟩,rfl⟩,rfl⟩ (by decide) YU rfl rfl) rfl)<|zN
 refine w4 ?_
 refine lc (dBs 24 (e:= .int) Ye)<|lc (dA 25 Xg)<|w6 ?_
 refine lc (VQ 26 U3 QdE Qj4 (Qm rfl) rfl (Fresh.of rfl) (nlr rfl))<|lc (XM 27 (Qa rfl) rfl (Qa rfl) rfl (ea _) U3 QiX (by first|omega|(simp only[ai,aC,au,av,aB];omega)|(simp only[ai,aX,au,av,aB];omega)) rfl (Fresh.of rfl) (nlr rfl))<|w6 ?_
 refine lc (VQ 28 U3 QdE Qj4 (Qm rfl) rfl (Fresh.of rfl) (nlr rfl))<|lc (XM 29 (Qa rfl) rfl (Qa rfl) rfl (ea _) U3 QiX (by first|omega|(simp only[ai,aC,au,av,aB];omega)|(simp only[ai,aX,au,av,aB];omega)) rfl (Fresh.of rfl) (nlr rfl))<|w_ ?_
 refine Qc<|w4 ?_
 exact Qc<|Zb ⟨i+1,H,K,(C.set ((r.1).toNat) (N.1,5,[],r.2.2.1)),(A++([r.1])),(B++([r.2.2.1])),(z++([r.2.2.2])),by omega,rfl,S,b3,(by rw[T];exact QEI y b6),(by rw[R,Qr y,aT];rfl),(by rw[Q,Qr y,aT];rfl),(by rw[P,Qr y,aT];rfl),rfl⟩ (by omega)<|wp [(13,25),(14,27),(15,29)] ⟨rfl,rfl,rfl,rfl,(Qg rfl),(Qg rfl),(UD rfl),(UD rfl),trivial⟩
 refine w3 ?_
 cases b8:(G)
 refine w6 ?_
 exact Yf (V _ ⟨false,(Qwy y o (by clear f o S;simp[*])),rfl⟩)<|wo []
 refine w6 ?_
 exact Yf (V _ ⟨(decide (r.2.1=2)),(Qwy y o (by clear f o S;simp[*])),rfl⟩)<|wo []
 refine w3 ?_
 cases b9:(I)
 refine w6 ?_
 exact Yf (U _ ⟨false,(Qwy y f (by clear f o;simp[*])),rfl⟩)<|wo []
 refine w6 ?_
 exact Yf (U _ ⟨(decide (r.2.1=1)),(Qwy y f (by clear f o;simp[*])),rfl⟩)<|wo []
 have a0:=aa Z
 refine w5 ?_
 obtain ⟨sg,a8⟩:=gx c.1 k
 have b5:=a8
 refine w2 ?_
 refine lc (xal 30 QG WO)<|w7 ?_
 refine lc (Qh QbZ ⟨_,_,rfl,(Qm rfl),⟨_,_,rfl,(Evl.ev (Qn rfl)),rfl⟩⟩ (ao.1 rfl) rfl rfl)<|lc (dBs 31 (e:=Zm) Xa (hab:=by exact ⟨_,_,_,_,rfl,⟨[dS sg.1],[dI 1,.val (.slice none 0 0),.val (.slice none 0 0)],_,_,_,_,rfl,rfl,⟨rfl,rfl⟩,⟨[dI 1],[.val (.slice none 0 0),.val (.slice none 0 0)],_,_,_,_,rfl,rfl,⟨rfl,rfl⟩,⟨[.val (.slice none 0 0)],[.val (.slice none 0 0)],_,_,_,_,rfl,rfl,(.inr ⟨rfl,rfl,rfl⟩),(.inr ⟨rfl,rfl,rfl⟩),rfl⟩,rfl⟩,rfl⟩,⟨rfl,rfl⟩,rfl⟩))<|lc (dA 32 Qb9)<|w2 ?_
 refine Qc<|w4 ?_
 exact Qc<|l0_<|wp [(8,32)] ⟨rfl,rfl,rfl,rfl,(Qg (QDo b5)),trivial⟩
def W4 (c:Yw)(l:QAk)[∀c,Decidable (SgOk c)][∀n,Decidable (QV n)]:FC prog 243 [(true,[.dat Qj c.1,.dat Qd c.2.1,.dat Qq c.2.2]),(false,[.dat Qg7 l])] [] 0 (Is (PV.tup [(true,[.ref 0,.ref 1]),(false,[dB (decide ((AmP c l∧amV c l=true)∧QV (mmM c l (Qt c.1 c.1.length).length)))])]) [ar 0 103 QG ((bmV c l).1),ar 1 147 Zm ((bmV c l).2)]):=by
 refine Ql func243 rfl rfl ntmps243 fun O_ P a7 a0 X_ a2 a1=>w_ ?_
 refine xbx 0 ?_
 refine lc (xal 1 J6 Xb)<|w5 ?_
 refine lc (dK (JX c l) Qnj)<|w11 ?_
 cases I:(decide (AmP c l))
 have J:=ab I
 refine w6 ?_
 refine lc (Qh Hk rfl (ao.1 rfl) rfl rfl)<|w3 ?_
 refine AC.wk (Qo 2 (p:=1) (off:=0) 103 QG rfl rfl (Fresh.of rfl) (nlr rfl))<|AC.wk (Qo 3 (p:=1) (off:=1) 147 Zm rfl rfl (Fresh.of rfl) (nlr rfl))<|w_ ?_
 have e2:(false:Bool)=(decide ((AmP c l∧amV c l=true)∧QV (mmM c l (Qt c.1 c.1.length).length))):=by
  exact (QiL (fun q=>absurd q.1.1 ‹_›)).2.2
 exact fi_ [(0,2),(1,3)] P ⟨(Qg (by exact (QiL (fun q=>absurd q.1.1 ‹_›)).1)),(Qg (by exact (QiL (fun q=>absurd q.1.1 ‹_›)).2.1)),trivial⟩ (h0:=by rw[← e2] <;> rfl)
 have J:=aa I
 refine w4 ?_
 refine cx_ (fun _=> ?_) fun _=> ?_
 refine w_ ?_
 refine lc (Qh Hk rfl (ao.1 rfl) rfl rfl)<|w3 ?_
 refine AC.wk (Qo 4 (p:=1) (off:=0) 103 QG rfl rfl (Fresh.of rfl) (nlr rfl))<|AC.wk (Qo 5 (p:=1) (off:=1) 147 Zm rfl rfl (Fresh.of rfl) (nlr rfl))<|w_ ?_
 have e4:(false:Bool)=(decide ((AmP c l∧amV c l=true)∧QV (mmM c l (Qt c.1 c.1.length).length))):=by
  exact (QiL (fun q=>absurd q.1.2 (bT.1 ‹_›))).2.2
 exact fi_ [(0,4),(1,5)] P ⟨(Qg (by exact (QiL (fun q=>absurd q.1.2 (bT.1 ‹_›))).1)),(Qg (by exact (QiL (fun q=>absurd q.1.2 (bT.1 ‹_›))).2.1)),trivial⟩ (h0:=by rw[← e4] <;> rfl)
 refine w_ ?_
 refine Q5 ?_
 have y:=(by assumption:AmP c l)
 have C:=(by assumption:amV c l=true)
 obtain ⟨V,W,z⟩:=Qz2 y C
 have T:c.1.length≤8∧∀x∈c.1,x.1.size≤1000:=Qzv (x:=(c.1,[])) y.1.1.sigs
 refine w12 ?_
 refine AC.wk (Wk.nilS 6 9 25 Qd rfl (Fresh.of rfl) (nlr rfl))<|AC.wk (Y6 (q:=6) rfl)<|AC.wk (Wk.nilS 7 10 25 Qd rfl (Fresh.of rfl) (nlr rfl))<|AC.wk (Y6 (q:=7) rfl)<|AC.wk (Wk.nilS 8 8 3 .int rfl (Fresh.of rfl) (nlr rfl))<|Qy (fun D s_=>∃(v:Nat) (B:Int) (r:List Int) (t:List (List BA)) (o:List (List BA)),D=l.length - 2*v∧(B=2*(v:Int)∧2*v≤l.length)∧(r=evL (fun m=>m.1) l 0 v)∧(t=evL (fun m=>m.2.2) l 0 v)∧(o=evL (fun m=>m.2.2) l 1 v)∧s_=⟨[(1,lf (.dat Qg7 l)),(2,lP 0 0),(4,lP 1 0),(5,lB false),(8,lR 9),(9,lR 10),(10,lR 11),(11,lI B)],[bx 0 28 [.dat Qj c.1,.dat Qd c.2.1,.dat Qq c.2.2],bx 1 48 [.val (.slice none 0 0),.val (.slice none 0 0)],ar 9 3 .int r,(10,some (.res (zrR 25 Qd t))),(11,some (.res (zrR 25 Qd o)))]⟩) ⟨0,0,([]:(Qv:Ty).Den),([]:(Qa0:Ty).Den),([]:(Qa0:Ty).Den),rfl,⟨rfl,aL _⟩,rfl,rfl,rfl,rfl⟩ ?_ ?_
 exact wp [(9,8),(10,6),(11,7)] ⟨rfl,rfl,(Qg rfl),(UD rfl),(UD rfl),trivial⟩
 rintro D s_ ⟨v,B,r,t,o,a5,hk,G,E,F,rfl⟩
 have a4:r.length≤v:=by rw[G];exact Qnz
 have a3:t.length≤v:=by rw[E];exact Qnz
 have a6:o.length≤v:=by rw[F];exact Qnz
 refine w7 ?_
 cases K:(decide (B<(l.length:Int)))
 have L:=ab K
 refine w3 ?_
 refine Q5 ?_
 have S:v=(Qt c.1 c.1.length).length:=by omega
 have d:Qhq c.1 r t o=mmM c l (Qt c.1 c.1.length).length:=by rw[G,E,F,S];rfl
 refine AC.wk (K1 (i:=9) (q:=10) rfl rfl)<|AC.wk (K1 (i:=10) (q:=11) rfl rfl)<|w6 ?_
 refine lc (Y0 12 (VN c.1 r t o T ⟨by omega,fun x X=>by rw[G] at X;obtain ⟨D,A,rfl⟩:=QnA X;exact (z D A).1⟩ (by rw[G,E,F,QiY (by omega) (by omega),QiY (by omega) (by omega),QiY (by omega) (by omega)];exact ⟨rfl,rfl⟩) (fun a H=>by rw[E] at H;obtain ⟨D,A,rfl⟩:=QnA H;exact (z D A).2) (fun a H=>by rw[F] at H;obtain ⟨D,A,rfl⟩:=QnA H;exact (z D A).2)) QfW ⟨_,_,rfl,(Ev.b (Qm rfl)),⟨_,_,rfl,(Qa4 (Qa rfl) rfl),⟨_,_,rfl,(Ev.b (Qm rfl)),⟨_,_,rfl,(Ev.b (Qm rfl)),rfl⟩⟩⟩⟩ rfl rfl rfl ⟨Fresh.of rfl,Fresh.of rfl,trivial⟩ (nlr rfl))<|w3 ?_
 refine lc (xal 14 J6 Xb)<|w8 ?_
 cases M:(decide (QV (Qhq c.1 r t o)))
 have N:=ab M
 refine w2 ?_
 refine lc (Qh Hk rfl (ao.1 rfl) rfl rfl)<|w3 ?_
 refine AC.wk (Qo 15 (p:=1) (off:=0) 103 QG rfl rfl (Fresh.of rfl) (nlr rfl))<|AC.wk (Qo 16 (p:=1) (off:=1) 147 Zm rfl rfl (Fresh.of rfl) (nlr rfl))<|w_ ?_
 have Q:(false:Bool)=(decide ((AmP c l∧amV c l=true)∧QV (mmM c l (Qt c.1 c.1.length).length))):=by
  exact (QiL (fun q=>absurd q.2 (by rw[← d];assumption))).2.2
 exact fi_ [(0,15),(1,16)] P ⟨(Qg (by exact (QiL (fun q=>absurd q.2 (by rw[← d];assumption))).1)),(Qg (by exact (QiL (fun q=>absurd q.2 (by rw[← d];assumption))).2.1)),trivial⟩ (h0:=by rw[← Q] <;> rfl)
 have N:=aa M
 refine w8 ?_
 have R:(true:Bool)=(decide ((AmP c l∧amV c l=true)∧QV (mmM c l (Qt c.1 c.1.length).length))):=by
  exact (QwS ⟨⟨y,C⟩,by rw[← d];assumption⟩).2.2
 exact fi_ [(0,12),(1,13)] P ⟨(Qg (by (rw[d];exact (QwS ⟨⟨y,C⟩,by rw[← d];assumption⟩).1))),(Qg (by (rw[d];exact (QwS ⟨⟨y,C⟩,by rw[← d];assumption⟩).2.1))),trivial⟩ (h0:=by rw[← R] <;> rfl)
 have L:=aa K
 refine w8 ?_
 obtain ⟨O,Y⟩:=gx l ((B).toNat)
 refine w3 ?_
 refine lc (dBs 17 (e:= .int) Ye)<|lc (dA 18 Xg)<|w9 ?_
 refine lc (VQ 19 U3 QdE Qj4 (Qm rfl) rfl (Fresh.of rfl) (nlr rfl))<|lc (XM 20 (Qa rfl) rfl (Qa rfl) rfl (ea _) U3 QiX (by first|omega|(simp only[ai,aC,au,av,aB];omega)|(simp only[ai,aX,au,av,aB];omega)) rfl (Fresh.of rfl) (nlr rfl))<|w7 ?_
 obtain ⟨U,Z⟩:=gx l ((B+1).toNat)
 refine w3 ?_
 refine lc (VQ 21 U3 QdE Qj4 (Qm rfl) rfl (Fresh.of rfl) (nlr rfl))<|lc (XM 22 (Qa rfl) rfl (Qa rfl) rfl (ea _) U3 QiX (by first|omega|(simp only[ai,aC,au,av,aB];omega)|(simp only[ai,aX,au,av,aB];omega)) rfl (Fresh.of rfl) (nlr rfl))<|w_ ?_
 refine Qc<|w5 ?_
 exact Qc<|Zb ⟨(v+1),(B+2),(r++([O.1])),(t++([O.2.2])),(o++([U.2.2])),rfl,⟨by omega,by omega⟩,(by rw[G];exact QAo (p:=0) (by rw[show 2*v+0=(B).toNat by omega];assumption)),(by rw[E];exact QAo (f:=fun m=>m.2.2) (p:=0) (by rw[show 2*v+0=(B).toNat by omega];assumption)),(by rw[F];exact QAo (f:=fun m=>m.2.2) (p:=1) (by rw[show 2*v+1=(B+1).toNat by omega];assumption)),rfl⟩ (by omega)<|wp [(9,18),(10,20),(11,22)] ⟨rfl,rfl,(Qg rfl),(UD rfl),(UD rfl),trivial⟩
end Go.Proofs.YtjfpbcmfbnnooaaGreat
