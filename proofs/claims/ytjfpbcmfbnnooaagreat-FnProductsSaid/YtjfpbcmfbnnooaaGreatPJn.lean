import Derived.Test.YtjfpbcmfbnnooaaGreatPHq
import Derived.Shelf.Strings.OnBuilder
set_option linter.all false
namespace Go.Proofs.YtjfpbcmfbnnooaaGreat
open Go.RowKit Tryz
set_option maxRecDepth 100000
set_option maxHeartbeats 4000000
def inC (l:List BA)(c:BA):Bool:=l.any fun p=>ZK p c
def Qdt (c:BA)(k:Nat):Int:=(((List.range k).filter fun i:Nat=> !decide (bAt c (i:Int)=45)).length:Int)
def Qdu (l:List BA)(k:Nat):Int:=((l.take k).map fun c=>Qdt c c.size).sum
def Y7 (l:List BA):Int:=Qdu l l.length
def Qhj (x y:BA):Int:=if ltB x y then -1 else if ltB y x then 1 else 0
def VC:List BA→List BA→Int
 | [],[]=>0
 | [],_::_=> -1
 | _::_,[]=>1
 | x::a,y::b=>if Qhj x y=0 then VC a b else Qhj x y
def btB (l:List BA)(st:List BA×Bool):Bool:= !st.2||(decide (Y7 l<Y7 st.1)||(decide (Y7 l=Y7 st.1)&&decide (VC l st.1<0)))
def upS (st:List BA×Bool)(l:List BA):List BA×Bool:=if btB l st=true then (l,true) else st
def Yk (xs:List (List BA))(st:List BA×Bool):List BA×Bool:=xs.foldl upS st
def lfI (m:Nat)(l:List BA):List (List BA):=if (QqL (Qlr l)).length=l.length∧m=0 then [Qlr l] else []
def leI (ps:List BA):Nat→List BA→List BA→List (List BA)
 | 0,on,l=>match on with
  | []=>lfI 0 l
  | _::_=>[]
 | m+1,on,l=>match on with
  | []=>lfI (m+1) l
  | c::_=>ps.flatMap fun p=>if ZK p c=true then leI ps m (on.filter fun x=> !(ZK p x)) (l++[p]) else []
def J2 (on tk:List BA):Option BA:=on.find? fun c=> !(inC tk c)
def leS (ps on:List BA):Nat→List BA→List (List BA)
 | 0,tk=>match J2 on tk with
  | none=>[tk]
  | some _=>[]
 | m+1,tk=>match J2 on tk with
  | none=>[tk]
  | some c=>ps.flatMap fun p=>if ZK p c=true then leS ps on m (Zc ltB p tk) else []
def QGA (ps on:List BA)(k:Nat):List BA×Bool:=Yk (leI ps k on []) ([],false)
def Wy (ps on:List BA)(k:Nat):List BA×Bool:=Yk (leS ps on k []) ([],false)
def fmV (f:Nat→List BA×Bool):Nat→Nat→List BA×Bool
 | 0,_=>([],false)
 | n+1,k=>if (f k).2=true then f k else fmV f n (k+1)
def GdL (l:List BA):Prop:=l.length≤100∧∀x∈l,x.size≤1000
section
variable {ps on l tk best rest:List BA}{xs ys:List (List BA)}{st:List BA×Bool}{k m:Nat}{more:Int}{c p x:BA}{f g:Nat→List BA×Bool}{b:Bool}
def Qvz:Yk (xs++ys) st=Yk ys (Yk xs st):=bN
def QyR (h:st.2=true):(upS st l).2=true:=by
 unfold upS
 split
 ·rfl
 ·exact h
def QyS (h:st.2=false):upS st l=(l,true):=by unfold upS btB;rw[h];rfl
def QvA:(Yk xs st).2=(st.2|| !xs.isEmpty):=by
 induction xs generalizing st with
 | nil=>simp[Yk]
 | cons l xs a=>
  show (Yk xs (upS st l)).2=_
  rw[a]
  have:(upS st l).2=true:=by
   cases h:st.2 with
   | true=>exact QyR h
   | false=>rw[QyS h]
  rw[this];simp
def Qyu (h:(Yk xs ([],false)).2=false):xs=[]:=by rw[QvA] at h;simpa using h
def Qln (Q:List BA→Prop)(h:∀l∈xs,Q l)(h0:st.2=true→Q st.1):(Yk xs st).2=true→Q (Yk xs st).1:=by
 induction xs generalizing st with
 | nil=>exact h0
 | cons l xs d=>
  refine d (fun z a=>h z (az _ a)) (st:=upS st l) ?_
  unfold upS
  split
  ·exact fun _=>h l (aA ..)
  ·exact h0
def Qp6 (Q:List BA→Prop)(h:∀l∈xs,Q l)(h0:Q st.1):Q (Yk xs st).1:=by
 induction xs generalizing st with
 | nil=>exact h0
 | cons l xs d=>
  refine d (fun z a=>h z (az _ a)) (st:=upS st l) ?_
  unfold upS
  split
  ·exact h l (aA ..)
  ·exact h0
def ch1 (ps on l:List BA)(more:Int)(c p:BA):List (List BA):=if ZK p c=true then leI ps (more - 1).toNat (on.filter fun x=> !(ZK p x)) (l++[p]) else []
def chK (ps on l:List BA)(more:Int)(c:BA)(k:Nat):List (List BA):=(ps.take k).flatMap (ch1 ps on l more c)
def QuK (h:GdL l):∀x∈lfI m l,GdL x:=fun x a=>by
 unfold lfI at a
 split at a
 ·rw[aI] at a
  subst a
  exact ⟨by rw[Qr9];exact h.1,fun y d=>h.2 y ((QgV l).mem_iff.1 d)⟩
 ·cases a
def Qpe (h:∀x∈l,x.size≤1000)(d:p.size≤1000):∀x∈l++[p],x.size≤1000:=fun x a=>by
 rcases aO.1 a with a|a
 ·exact h x a
 ·rw[aI] at a;subst a;exact d
def QuH (e:∀p∈ps,p.size≤1000):∀(m:Nat) {on l:List BA},l.length+m≤100→(∀x∈l,x.size≤1000)→∀x∈leI ps m on l,GdL x
 | 0,on,l,h1,h2,x,a=>by
  cases on with
  | nil=>exact QuK (m:=0) ⟨by omega,h2⟩ x a
  | cons c t=>cases a
 | m+1,on,l,h1,h2,x,a=>by
  cases on with
  | nil=>exact QuK (m:=m+1) ⟨by omega,h2⟩ x a
  | cons c t=>
   obtain ⟨p,d,a⟩:=cj.1 (show x∈ps.flatMap _ from a)
   split at a
   ·exact QuH e m (by rw[ai,cy];omega) (Qpe h2 (e p d)) x a
   ·cases a
def se1 (ps on tk:List BA)(more:Int)(c p:BA):List (List BA):=if 0<more∧ZK p c=true then leS ps on (more - 1).toNat (Zc ltB p tk) else []
def seK (ps on tk:List BA)(more:Int)(c:BA)(k:Nat):List (List BA):=(ps.take k).flatMap (se1 ps on tk more c)
def Quf (n:NoneTo (fun c=> !(inC tk c)) on k)(q:on[k]? =some c)(h:inC tk c=false):J2 on tk=some c:=by
 unfold J2
 obtain ⟨o,e⟩:=ae.1 q
 rw[List.find?_eq_some_iff_append]
 refine ⟨by rw[h];rfl,on.take k,on.drop (k+1),?_,fun y r=> ?_⟩
 ·rw[← e,← bS o,bB]
 ·obtain ⟨i,a⟩:=aG.1 r
  rw[bf] at a
  split at a
  ·rename_i d
   have j:(!(inC tk y))=false:=n i d y a
   rw[j];rfl
  ·cases a
def QnF (e:NoneTo (fun c=> !(inC tk c)) on k)(j:on.length≤k):J2 on tk=none:=by
 unfold J2
 rw[dC]
 intro x h
 obtain ⟨i,a⟩:=aG.1 h
 have d:(!(inC tk x))=false:=e i (by have:=(ae.1 a).1;omega) x a
 rw[d];simp
def Wa (h:J2 on tk=none):leS ps on m tk=[tk]:=by cases m <;> rw[leS,h]
def QkY (h:J2 on tk=some c):leS ps on more.toNat tk=ps.flatMap (se1 ps on tk more c):=by
 by_cases a:0<more
 ·obtain ⟨m,rfl⟩:∃m:Nat,more=(m:Int)+1:=⟨(more - 1).toNat,by omega⟩
  rw[show ((m:Int)+1).toNat=m+1 by omega,leS,h]
  unfold se1
  rw[show ((m:Int)+1 - 1).toNat=m by omega]
  simp only[a,true_and]
 ·rw[show more.toNat=0 by omega,leS,h]
  unfold se1
  simp[a]
def QEk (d:ps[k]? =some p)(a:0<more)(h:ZK p c=true)(e:st=Yk (seK ps on tk more c k) (best,b)):Yk (leS ps on (more - 1).toNat (Zc ltB p tk)) st=Yk (seK ps on tk more c (k+1)) (best,b):=by
 have:seK ps on tk more c (k+1)=seK ps on tk more c k++leS ps on (more - 1).toNat (Zc ltB p tk):=by
  unfold seK
  rw[Qr d,cF]
  simp[se1,h,a]
 rw[this,Qvz,← e]
def QEj (a:ps[k]? =some p)(h:¬(0<more∧ZK p c=true)):seK ps on tk more c k=seK ps on tk more c (k+1):=by
 unfold seK
 rw[Qr a,cF]
 simp only[di,List.flatMap_nil,se1,if_neg h,bH]
def Qyy (h:J2 on tk=some c)(a:ps.length≤k):seK ps on tk more c k=leS ps on more.toNat tk:=by rw[QkY h,seK,aJ a]
def QbJ (a:inC tk c=false)(h:ZK p c=true):UK tk p=false:=by
 cases e:UK tk p with
 | false=>rfl
 | true=>
  have:inC tk c=true:=bG.2 ⟨p,Qdp.1 e,h⟩
  rw[this] at a;cases a
def Qcy (h:UK tk p=false):(Zc ltB p tk).length=tk.length+1:=by
 have d:p∉tk:=fun a=>by rw[Qdp.2 a] at h;cases h
 clear h
 induction tk with
 | nil=>rfl
 | cons y t i=>
  unfold Zc
  split
  ·rw[av,i fun a=>d (az _ a),av]
  ·split
   ·rename_i e;exact absurd (by rw[e];exact aA ..) d
   ·rfl
def QeP:∀(m:Nat) {tk x:List BA},x∈leS ps on m tk→∃j,j≤m∧x.length=tk.length+j∧x∈leS ps on j tk
 | 0,tk,x,h=>by
  cases a:J2 on tk with
  | none=>
   rw[Wa a,aI] at h
   exact ⟨0,aP _,by rw[h];rfl,by rw[Wa a,h];exact aI.2 rfl⟩
  | some c=>rw[leS,a] at h;cases h
 | m+1,tk,x,h=>by
  cases a:J2 on tk with
  | none=>
   rw[Wa a,aI] at h
   exact ⟨0,aL _,by rw[h];rfl,by rw[Wa a,h];exact aI.2 rfl⟩
  | some c=>
   have i:=h
   rw[leS,a] at i
   obtain ⟨p,d,e⟩:=cj.1 (show x∈ps.flatMap _ from i)
   split at e
   ·rename_i n
    have r:inC tk c=false:=by
     have:=List.find?_some a
     simpa using this
    obtain ⟨j,s,o,q⟩:=QeP m e
    rw[Qcy (QbJ r n)] at o
    refine ⟨j+1,by omega,by omega,?_⟩
    rw[leS,a]
    exact cj.2 ⟨p,d,by rw[if_pos n];exact q⟩
   ·cases e
def QAV (t:∀p∈ps,p.size≤1000):∀(m:Nat) {tk:List BA},tk.length+m≤100→(∀x∈tk,x.size≤1000)→∀x∈leS ps on m tk,GdL x:=fun m tk n e x a=>by
 obtain ⟨j,o,q,r⟩:=QeP m a
 refine ⟨by omega,?_⟩
 clear n o q r
 induction m generalizing tk with
 | zero=>
  cases d:J2 on tk with
  | none=>rw[Wa d,aI] at a;subst a;exact e
  | some c=>rw[leS,d] at a;cases a
 | succ m u=>
  cases d:J2 on tk with
  | none=>rw[Wa d,aI] at a;subst a;exact e
  | some c=>
   rw[leS,d] at a
   obtain ⟨p,h,a⟩:=cj.1 (show x∈ps.flatMap _ from a)
   split at a
   ·exact u (tk:=Zc ltB p tk) (fun y i=>by
     rcases Z2.1 i with s|i
     ·rw[s];exact t _ h
     ·exact e y i) a
   ·cases a
def QuI (h:∀j,j<k→(Wy ps on j).2=false):∀x∈leS ps on k [],x.length=k:=fun x i=>by
 obtain ⟨j,n,d,a⟩:=QeP k i
 rw[aB,bJ] at d
 by_cases e:j=k
 ·omega
 ·have:=Qyu (h j (by omega))
  rw[this] at a;cases a
def Qub:∀(n k i:Nat),i<n→(∀j,j<i→(f (k+j)).2=false)→(f (k+i)).2=true→fmV f n k=f (k+i)
 | 0,_,_,h,_,_=>absurd h (aS _)
 | n+1,k,0,_,_,h=>by rw[fmV,if_pos (show (f k).2=true from h)];rfl
 | n+1,k,i+1,h1,h2,h3=>by
  rw[fmV,if_neg (by rw[show k=k+0 from rfl,h2 0 (by omega)];simp)]
  have:=Qub n (k+1) i (by omega) (fun j a=>by rw[show k+1+j=k+(j+1) by omega];exact h2 _ (by omega)) (by rw[show k+1+i=k+(i+1) by omega];exact h3)
  rw[this,show k+1+i=k+(i+1) by omega]
def Qud:∀(n k:Nat),(∀j,j<n→(f (k+j)).2=false)→fmV f n k=([],false)
 | 0,_,_=>rfl
 | n+1,k,h=>by
  rw[fmV,if_neg (by rw[show k=k+0 from rfl,h 0 (by omega)];simp)]
  exact Qud n (k+1) fun j a=>by rw[show k+1+j=k+(j+1) by omega];exact h _ (by omega)
end
section
variable {l a b:List BA}{c x y:BA}{k j:Nat}{u:UInt8}{st:List BA×Bool}
def QuM (d:c[((k:Int)).toNat]? =some u)(h:¬u=45):Qdt c k+1=Qdt c (k+1):=by
 unfold Qdt
 rw[bk,bg,ai]
 simp[QU d,h]
def QuL (d:c[((k:Int)).toNat]? =some u)(h:u=45):Qdt c k=Qdt c (k+1):=by
 unfold Qdt
 rw[bk,bg,ai]
 simp[QU d,h]
def QkZ:0≤Qdt c k∧Qdt c k≤(k:Int):=by
 unfold Qdt
 have:((List.range k).filter fun i:Nat=> !decide (bAt c (i:Int)=45)).length≤(List.range k).length:=bR ..
 rw[dh] at this
 omega
def Qic (d:l[k]? =some c):Qdu l k+Qdt c c.size=Qdu l (k+1):=by
 unfold Qdu
 rw[Qr d,aT,List.sum_append]
 simp
def Qk0 (h:∀x∈l,x.size≤1000):0≤Qdu l k∧Qdu l k≤1000*(k:Int):=by
 induction k with
 | zero=>exact ⟨cR _,cR _⟩
 | succ k g=>
  cases d:l[k]? with
  | none=>
   have:Qdu l (k+1)=Qdu l k:=by
    have:=cQ.1 d
    unfold Qdu;rw[aJ (by omega),aJ this]
   rw[this];omega
  | some c=>
   rw[← Qic d]
   have e:=QkZ (c:=c) (k:=c.size)
   have f:=h c (ah d)
   omega
def QuN (h:l.length≤k):Qdu l k=Y7 l:=by unfold Y7 Qdu;rw[aJ h,aJ (aP _)]
def QDy (h:GdL l):0≤Y7 l∧Y7 l≤100000:=by
 have:=Qk0 (k:=l.length) h.2
 have:=h.1
 unfold Y7
 omega
def Qw6:Qhj x x=0:=by unfold Qhj;rw[W9.irr];rfl
def QAc (h:Qhj x y=0):x=y:=by
 unfold Qhj at h
 split at h
 ·cases h
 ·rename_i d
  split at h
  ·cases h
  ·rename_i e
   rcases W9.tot x y with g|g|g
   ·exact absurd g d
   ·exact g
   ·exact absurd g e
def QqN (m:a[k]? =some x)(n:b[k]? =some y)(h:Qhj x y=0)(e:VC a b=VC (a.drop k) (b.drop k)):VC a b=VC (a.drop (k+1)) (b.drop (k+1)):=by
 obtain ⟨g,d⟩:=ae.1 m
 obtain ⟨i,f⟩:=ae.1 n
 rw[e,bS g,bS i,d,f,VC,if_pos h]
def QqM (d:a[k]? =some x)(f:b[k]? =some y)(h:x=y)(e:VC a b=VC (a.drop k) (b.drop k)):VC a b=VC (a.drop (k+1)) (b.drop (k+1)):=QqN d f (by rw[h];exact Qw6) e
def Qw7 (m:a[k]? =some x)(n:b[k]? =some y)(h:¬Qhj x y=0)(e:VC a b=VC (a.drop k) (b.drop k)):Qhj x y=VC a b:=by
 obtain ⟨g,d⟩:=ae.1 m
 obtain ⟨i,f⟩:=ae.1 n
 rw[e,bS g,bS i,d,f,VC,if_neg h]
def QtC (d:a.length≤k)(f:b.length≤k)(e:VC a b=VC (a.drop k) (b.drop k)):(0:Int)=VC a b:=by
 rw[e,List.drop_of_length_le d,List.drop_of_length_le f];rfl
def Hn (h:st.2=false):true=btB l st:=by unfold btB;rw[h];rfl
def Qzf (h:st.2=true)(d:¬Y7 l<Y7 st.1)(e:Y7 l=Y7 st.1):decide (VC l st.1<0)=btB l st:=by unfold btB;rw[h,aj d,ay e];rfl
def Qkt (h:st.2=true)(d:¬Y7 l=Y7 st.1):decide (Y7 l<Y7 st.1)=btB l st:=by unfold btB;rw[h,aj d];simp
def QdO (h:st.2=true)(d:Y7 l=Y7 st.1)(e:VC l st.1=VC (l.drop k) (st.1.drop k))(i:l[k]? =some x)(m:st.1[k]? =some y)(f:¬x=y):ltB x y=btB l st:=by
 rw[← Qzf h (by omega) d,← Qw7 i m (fun g=>f (QAc g)) e]
 unfold Qhj
 cases n:ltB x y with
 | true=>rfl
 | false=>cases ltB y x <;> rfl
def Hm (h:st.2=true)(d:Y7 l=Y7 st.1)(g:st.1.length=l.length)(e:VC l st.1=VC (l.drop k) (st.1.drop k))(f:l.length≤k):false=btB l st:=by
 rw[← Qzf h (by omega) d,← QtC f (by omega) e];rfl
end
def YT (l:List BA)(hg:GdL l):FC prog 333 [(false,[.dat Qd l])] [] 0 (QJ (lI (Y7 l))):=by
 have hg1:=hg.1
 refine Ql func333 rfl rfl ntmps333 fun O_ hO w0_ N0_ X_ h0_ f0_=>w13 ?_
 refine Qy (fun m_ s_=>∃(k:Nat) (n_:Int),k≤l.length∧m_=l.length - k∧(n_=Qdu l k)∧s_=⟨[(2,lI 0),(3,lI n_),(7,lf (.dat Qd l)),(8,lI (l.length:Int)),(9,lI (k:Int))],[]⟩) ⟨0,0,aL _,rfl,rfl,rfl⟩ ?_ ?_
 exact wo []
 rintro m_ s_ ⟨k,n_,hk2,hm3,hn,rfl⟩
 have hnr:=Qk0 (k:=k) hg.2
 refine w4 ?_
 cases hb4:(decide ((k:Int)<(l.length:Int)))
 have hb4':=ab hb4
 refine w8 ?_
 exact fqI hO<|hn.trans (QuN (by omega))
 have hb4':=aa hb4
 refine w5 ?_
 obtain ⟨cx,hx6⟩:=gx l k
 have hcx:=hx6
 have hscx:=hg.2 _ (ah hx6)
 refine w8 ?_
 refine Qy (fun m_ s_=>∃(j:Nat) (wn_:Int),j≤cx.size∧m_=cx.size - j∧(wn_=Qdu l k+Qdt cx j)∧s_=⟨[(2,lI 0),(3,lI wn_),(5,lf (dS cx)),(6,lI (j:Int)),(7,lf (.dat Qd l)),(8,lI (l.length:Int)),(9,lI (k:Int))],[]⟩) ⟨0,n_,aL _,rfl,(by rw[hn];simp[Qdt]),rfl⟩ ?_ ?_
 exact wo []
 rintro m_ s_ ⟨j,wn_,hk7,hm8,hw2,rfl⟩
 have hmr:=QkZ (c:=cx) (k:=j)
 refine w7 ?_
 cases hb10:(decide ((j:Int)<(cx.size:Int)))
 have hb10':=ab hb10
 refine w6 ?_
 exact Qc<|Zb ⟨k+1,wn_,by omega,rfl,(by rw[hw2,show j=cx.size by omega,Qic hcx]),rfl⟩ (by omega)<|wo []
 have hb10':=aa hb10
 refine w7 ?_
 obtain ⟨c11,hc12⟩:=gs cx (((j:Int)).toNat)
 refine w_ ?_
 refine lc (QW (Qa rfl) (QS 45 rfl) rfl)<|w_ ?_
 cases hb13:(!decide (c11=45))
 have hb13':(c11=45):=QB hb13
 refine w7 ?_
 exact Qc<|Zb ⟨j+1,wn_,by omega,rfl,(by rw[hw2];first|rw[Int.add_assoc,QuM ‹_› ‹_›]|rw[QuL ‹_› ‹_›]),rfl⟩ (by omega)<|wo []
 have hb13':¬(c11=45):=QL hb13
 refine w5 ?_
 refine Qc<|w5 ?_
 exact Qc<|Zb ⟨j+1,(wn_+1),by omega,rfl,(by rw[hw2];first|rw[Int.add_assoc,QuM ‹_› ‹_›]|rw[QuL ‹_› ‹_›]),rfl⟩ (by omega)<|wo []
def QaH (ps:List BA)(on:List BA)(d:List BA)(e:Bool)(l:List BA)(D:GdL l)(hb:GdL d)(q:e=true→d.length=l.length):FC prog 313 [(false,[.ptr 0 0]),(false,[.dat Qd l])] [bx 0 296 [.dat Qd ps,.dat Qd on,.dat Qd d,dB e]] 1 (Is (lB (btB l (d,e))) [bx 0 296 [.dat Qd ps,.dat Qd on,.dat Qd d,dB e]]):=by
 refine Ql func313 rfl rfl ntmps313 fun M w L E N I H=>w3 ?_
 apply dW (io 8 _::io 9 (lI (Y7 l))::i4 10 _ _ _ _ (io 14 (lI (Y7 d))::i2 5 _ _ [])) [0,0,3,3,3,3,0,0,0]
 refine z_ ?_
 refine zz (fun _ z=>ac (dK (YT l (by first|exact D|exact hb)) Jh) rfl)<|z4 ?_
 exact zz (fun _ z=>ac (dK (YT d (by first|exact D|exact hb)) Jh) rfl)<|y2
 refine w8 ?_
 cases K:(e)
 refine w16 ?_
 refine w4 ?_
 have F:(true:Bool)=(btB l (d,e)):=by
  first|exact Eq.symm ‹_› | exact Hn (by first|assumption|rfl)|exact QdO (st:=(d,e)) (by first|assumption|rfl) ‹_› i g h ‹_› | exact Hm (st:=(d,e)) (by first|assumption|rfl) ‹_› f i (by omega)|exact Qkt (st:=(d,e)) (by first|assumption|rfl) ‹_›
 exact fi_ [] w ⟨((congrArg (fun z_=>some (Ent.box 296 [.dat Qd ps,.dat Qd on,.dat Qd d,dB z_])) (show (false:Bool)=e by first|exact Eq.symm ‹_› | exact Hn (by first|assumption|rfl)|exact QdO (st:=(d,e)) (by first|assumption|rfl) ‹_› i g h ‹_› | exact Hm (st:=(d,e)) (by first|assumption|rfl) ‹_› f i (by omega)|exact Qkt (st:=(d,e)) (by first|assumption|rfl) ‹_›))),trivial⟩ (h0:=by rw[← F] <;> rfl)
 refine w5 ?_
 refine cn_ (fun _ _=> ?_) fun _ _=> ?_
 refine w4 ?_
 refine alL 35 fun _=> ?_
 refine w4 ?_
 refine lpK l.length (fun k=>(VC l d=VC (l.drop k) (d.drop k))∧(d.length=l.length)) (fun k=>⟨[(0,lP 0 0),(1,lf (.dat Qd l)),(36,lI (l.length:Int)),(37,lI (k:Int))],[bx 0 296 [.dat Qd ps,.dat Qd on,.dat Qd d,dB true]]⟩) ⟨rfl,(q (by first|assumption|rfl))⟩ ?_ fun k _ J=> ?_
 exact wo []
 obtain ⟨i,f⟩:=J
 refine w4 ?_
 cases o:(decide ((k:Int)<(l.length:Int)))
 have p:=ab o
 refine w7 ?_
 have G:(false:Bool)=(btB l (d,e)):=by
  first|exact Eq.symm ‹_› | exact Hn (by first|assumption|rfl)|exact QdO (st:=(d,e)) (by first|assumption|rfl) ‹_› i g h ‹_› | exact Hm (st:=(d,e)) (by first|assumption|rfl) ‹_› f i (by omega)|exact Qkt (st:=(d,e)) (by first|assumption|rfl) ‹_›
 exact fi_ [] w ⟨((congrArg (fun z_=>some (Ent.box 296 [.dat Qd ps,.dat Qd on,.dat Qd d,dB z_])) (show (true:Bool)=e by first|exact Eq.symm ‹_› | exact Hn (by first|assumption|rfl)|exact QdO (st:=(d,e)) (by first|assumption|rfl) ‹_› i g h ‹_› | exact Hm (st:=(d,e)) (by first|assumption|rfl) ‹_› f i (by omega)|exact Qkt (st:=(d,e)) (by first|assumption|rfl) ‹_›))),trivial⟩ (h0:=by rw[← G] <;> rfl)
 have p:=aa o
 refine w8 ?_
 obtain ⟨s,C⟩:=gx l k
 have g:=C
 obtain ⟨t,r⟩:=gx d k
 have h:=r
 apply dW (i9 40 _ _ _ _ _ _ _ _ _ (i3 49 _ _ _ [])) [0,1,0,0,15,15,15,15,255,15,15,0]
 exact y12
 cases m:(!decide (s=t))
 have n:(s=t):=QB m
 refine w6 ?_
 exact Qc<|lK_ ⟨(QqM g h ‹_› i),f⟩<|wo []
 have n:¬(s=t):=QL m
 refine w_ ?_
 apply dW (i9 52 _ _ _ _ _ _ _ _ _ (i2 61 _ _ [io 63 (lB (Op.bytesLess s.toList t.toList)),io 4 _])) [0,1,0,0,15,15,15,15,255,15,15,0,0]
 refine z11 ?_
 exact zz (fun _ z=>ac (Qhx (z.v rfl) (z.v rfl) rfl) rfl)<|y1
 refine w_ ?_
 have A:(Op.bytesLess s.toList t.toList:Bool)=(btB l (d,e)):=by
  first|exact Eq.symm ‹_› | exact Hn (by first|assumption|rfl)|exact QdO (st:=(d,e)) (by first|assumption|rfl) ‹_› i g h ‹_› | exact Hm (st:=(d,e)) (by first|assumption|rfl) ‹_› f i (by omega)|exact Qkt (st:=(d,e)) (by first|assumption|rfl) ‹_›
 exact fi_ [] w ⟨((congrArg (fun z_=>some (Ent.box 296 [.dat Qd ps,.dat Qd on,.dat Qd d,dB z_])) (show (true:Bool)=e by first|exact Eq.symm ‹_› | exact Hn (by first|assumption|rfl)|exact QdO (st:=(d,e)) (by first|assumption|rfl) ‹_› i g h ‹_› | exact Hm (st:=(d,e)) (by first|assumption|rfl) ‹_› f i (by omega)|exact Qkt (st:=(d,e)) (by first|assumption|rfl) ‹_›))),trivial⟩ (h0:=by rw[A] <;> rfl)
 refine w14 ?_
 have B:(decide ((Y7 l)<(Y7 d)):Bool)=(btB l (d,e)):=by
  first|exact Eq.symm ‹_› | exact Hn (by first|assumption|rfl)|exact QdO (st:=(d,e)) (by first|assumption|rfl) ‹_› i g h ‹_› | exact Hm (st:=(d,e)) (by first|assumption|rfl) ‹_› f i (by omega)|exact Qkt (st:=(d,e)) (by first|assumption|rfl) ‹_›
 exact fi_ [] w ⟨((congrArg (fun z_=>some (Ent.box 296 [.dat Qd ps,.dat Qd on,.dat Qd d,dB z_])) (show (true:Bool)=e by first|exact Eq.symm ‹_› | exact Hn (by first|assumption|rfl)|exact QdO (st:=(d,e)) (by first|assumption|rfl) ‹_› i g h ‹_› | exact Hm (st:=(d,e)) (by first|assumption|rfl) ‹_› f i (by omega)|exact Qkt (st:=(d,e)) (by first|assumption|rfl) ‹_›))),trivial⟩ (h0:=by rw[B] <;> rfl)
def ChP (ps on l:List BA)(more:Int):Prop:=0≤more∧(l.length:Int)+more≤100∧(∀x∈l,x.size≤1000)∧on.length≤1000∧∀p∈ps,p.size≤1000∧∀c∈on,p.size≤c.size
section
variable {ps on l tk best:List BA}{st:List BA×Bool}{k:Nat}{more:Int}{c p x:BA}{b:Bool}{f:BA→Bool}
def ChP.next (h:ChP ps on l more)(m:ps[k]? =some p)(s:¬more=0):ChP ps (on.filter f) (l++[p]) (more - 1):=by
 obtain ⟨o,r,g,i,a⟩:=h
 have d:=ah m
 refine ⟨by omega,by rw[ai,cy];omega,Qpe g (a p d).1,bi (bR ..) i,fun q e=>⟨(a q e).1,fun c j=>(a q e).2 c (bA.1 j).1⟩⟩
def ChP.gd (h:ChP ps on l more):GdL l:=⟨by have:=h.1;have:=h.2.1;omega,h.2.2.1⟩
def ChP.run (h:ChP ps on l more)(a:GdL st.1):GdL (Yk (leI ps more.toNat on l) st).1:=
 Qp6 GdL (QuH (fun p d=>(h.2.2.2.2 p d).1) more.toNat (by have:=h.1;have:=h.2.1;omega) h.2.2.1) a
def hd0 (on:List BA):BA:=(on[0]?).getD ByteArray.empty
def gd0:GdL []:=⟨by decide,fun x a=>by cases a⟩
end
def mnV (n:Int)(on off:List BA):List BA×Bool:=if ((Yb n on off).length:Int)≤60 then fmV (QGA (Yb n on off) on) 7 0 else ([],false)
section
variable {n:Int}{on off ps:List BA}{k:Nat}{q:Int}
def QD8 (h:0≤n∧n≤8)(a:∀c∈on,(c.size:Int)=n):∀p∈Yb n on off,p.size≤1000∧∀c∈on,p.size≤c.size:=fun p g=>by
 have e:=(bA.1 g).1
 have i:=XC e
 exact ⟨by omega,fun c d=>by have:=a c d;omega⟩
end
def SeP (ps on tk:List BA)(more:Int):Prop:=ChP ps on tk more∧∀x∈tk,∀c∈on,x.size≤c.size
section
variable {ps on tk best:List BA}{st:List BA×Bool}{k j:Nat}{more q:Int}{c p x:BA}{b:Bool}
def SeP.next (h:SeP ps on tk more)(m:ps[k]? =some p)(s:0<more)(l:UK tk p=false):SeP ps on (Zc ltB p tk) (more - 1):=by
 obtain ⟨⟨n,o,f,g,e⟩,i⟩:=h
 have d:=ah m
 have r:=Qcy l
 refine ⟨⟨by omega,by omega,fun x a=> ?_,g,e⟩,fun x a=> ?_⟩
 ·rcases Z2.1 a with rfl|a
  ·exact (e _ d).1
  ·exact f x a
 ·rcases Z2.1 a with rfl|a
  ·exact (e _ d).2
  ·exact i x a
def SeP.run (h:SeP ps on tk more)(a:GdL st.1):GdL (Yk (leS ps on more.toNat tk) st).1:=
 Qp6 GdL (QAV (fun p d=>(h.1.2.2.2.2 p d).1) more.toNat (by have:=h.1.1;have:=h.1.2.1;omega) h.1.2.2.1) a
def QGH (d:ps[k]? =some p)(a:0<more)(h:ZK p c=true)(e:st=Yk (seK ps on tk more c k) (best,b)):((Yk (leS ps on (more - 1).toNat (Zc ltB p tk)) st).1,(Yk (leS ps on (more - 1).toNat (Zc ltB p tk)) st).2)=Yk (seK ps on tk more c (k+1)) (best,b):=QEk d a h e
def QEl (a:ps[k]? =some p)(h:¬(0<more∧ZK p c=true))(e:st=Yk (seK ps on tk more c k) (best,b)):st=Yk (seK ps on tk more c (k+1)) (best,b):=by rw[e,QEj a h]
def QvB (a:NoneTo (fun c=> !(inC tk c)) on j)(d:on[j]? =some c)(h:inC tk c=false)(f:ps.length≤k)(e:st=Yk (seK ps on tk more c k) (best,b)):Yk (leS ps on more.toNat tk) (best,b)=st:=by
 rw[e,Qyy (Quf a d h) f]
def QEn (a:NoneTo (fun c=> !(inC tk c)) on j)(d:on.length≤j)(h:btB tk st=true):Yk (leS ps on more.toNat tk) st=(tk,true):=by
 rw[Wa (QnF a d)]
 show upS st tk=_
 unfold upS;rw[if_pos h]
def QEm (a:NoneTo (fun c=> !(inC tk c)) on j)(d:on.length≤j)(h:btB tk st=false):Yk (leS ps on more.toNat tk) st=st:=by
 rw[Wa (QnF a d)]
 show upS st tk=_
 unfold upS;rw[if_neg (by rw[h];simp)]
def QBJ (e:NoneTo (fun c=> !(inC tk c)) on j)(g:on.length≤j)(a:∀x∈leS ps on more.toNat tk,(x.length:Int)=(tk.length:Int)+more)(d:b=true→(best.length:Int)=(tk.length:Int)+more):b=true→best.length=tk.length:=fun f=>by
 have h:=a tk (by rw[Wa (QnF e g)];exact aI.2 rfl)
 have i:=d f
 omega
def QGn (e:UK tk p=false)(a:b=true→(best.length:Int)=(tk.length:Int)+more):b=true→(best.length:Int)=((Zc ltB p tk).length:Int)+(more - 1):=fun d=>by
 have f:=a d
 rw[Qcy e];omega
def QDX (e:NoneTo (fun c=> !(inC tk c)) on j)(f:on[j]? =some c)(h:inC tk c=false)(i:ps[k]? =some p)(g:0<more)(a:ZK p c=true)(d:∀x∈leS ps on more.toNat tk,(x.length:Int)=(tk.length:Int)+more):∀x∈leS ps on (more - 1).toNat (Zc ltB p tk),(x.length:Int)=((Zc ltB p tk).length:Int)+(more - 1):=fun x l=>by
 have m:=d x (by
  rw[QkY (Quf e f h)]
  exact cj.2 ⟨p,ah i,by unfold se1;rw[if_pos ⟨g,a⟩];exact l⟩)
 rw[Qcy (QbJ h a)];omega
def QGG {st:List BA×Bool}(f:UK tk p=false)(a:∀x∈leS ps on (more - 1).toNat (Zc ltB p tk),(x.length:Int)=((Zc ltB p tk).length:Int)+(more - 1))(d:st.2=true→(st.1.length:Int)=(tk.length:Int)+more):(Yk (leS ps on (more - 1).toNat (Zc ltB p tk)) st).2=true→((Yk (leS ps on (more - 1).toNat (Zc ltB p tk)) st).1.length:Int)=(tk.length:Int)+more:=
 Qln (fun l=>(l.length:Int)=(tk.length:Int)+more) (fun l e=>by have:=a l e;rw[Qcy f] at this;omega) d
def sp0 {n:Int}{off:List BA}(e:0≤n∧n≤8)(d:∀c∈on,(c.size:Int)=n)(f:on.length≤1000)(h0:0≤q)(g:q<7):SeP (Yb n on off) on [] q:=
 ⟨⟨h0,by rw[aB];omega,fun x a=>by (cases a),f,QD8 e d⟩,fun x a=>by (cases a)⟩
def QxX (a:∀j:Nat,(j:Int)<q→(Wy ps on j).2=false)(h0:0≤q):∀x∈leS ps on q.toNat [],(x.length:Int)=(([]:List BA).length:Int)+q:=fun x d=>by
 have:=QuI (k:=q.toNat) (fun j e=>a j (by omega)) x d
 rw[aB];omega
def QuR (a:∀j:Nat,(j:Int)<q→(Wy ps on j).2=false)(h0:0≤q)(h:(Wy ps on q.toNat).2=false):∀j:Nat,(j:Int)<q+1→(Wy ps on j).2=false:=fun j d=>by
 by_cases e:(j:Int)=q
 ·rw[show j=q.toNat by omega];exact h
 ·exact a j (by omega)
def lsA (a:∀j:Nat,(j:Int)<q→(Wy ps on j).2=false)(h0:0≤q)(g:q<7)(d:(Wy ps on q.toNat).2=true):Wy ps on q.toNat=fmV (Wy ps on) 7 0:=by
 have:=Qub (f:=Wy ps on) 7 0 q.toNat (by omega) (fun j e=>by rw[bJ];exact a j (by omega)) (by rw[bJ];exact d)
 rw[this,bJ]
def lsB (a:∀j:Nat,(j:Int)<q→(Wy ps on j).2=false)(e:7≤q):([],false)=fmV (Wy ps on) 7 0:=
 (Qud 7 0 fun j d=>by rw[bJ];exact a j (by omega)).symm
end
def JZ {H:Nat}(G:∀(ps:List BA) (on:List BA) (best:List BA) (d:Bool) (a:List BA) (more:Int) (o:SeP ps on a more) (hb:GdL best) (D:d=true→(best.length:Int)=(a.length:Int)+more) (B:∀x∈leS ps on more.toNat a,(x.length:Int)=(a.length:Int)+more) (_:more.toNat<H),FC prog 267 [(false,[.ptr 0 0]),(false,[.dat Qd a]),(false,[dI more])] [bx 0 296 [.dat Qd ps,.dat Qd on,.dat Qd best,dB d]] 1 (Is (PV.tup []) [bx 0 296 [.dat Qd ps,.dat Qd on,.dat Qd ((Yk (leS ps on more.toNat a) (best,d)).1),dB ((Yk (leS ps on more.toNat a) (best,d)).2)]]))(ps:List BA)(on:List BA)(best:List BA)(d:Bool)(a:List BA)(more:Int)(o:SeP ps on a more)(hb:GdL best)(D:d=true→(best.length:Int)=(a.length:Int)+more)(B:∀x∈leS ps on more.toNat a,(x.length:Int)=(a.length:Int)+more)(Q:more.toNat=H):FC prog 267 [(false,[.ptr 0 0]),(false,[.dat Qd a]),(false,[dI more])] [bx 0 296 [.dat Qd ps,.dat Qd on,.dat Qd best,dB d]] 1 (Is (PV.tup []) [bx 0 296 [.dat Qd ps,.dat Qd on,.dat Qd ((Yk (leS ps on more.toNat a) (best,d)).1),dB ((Yk (leS ps on more.toNat a) (best,d)).2)]]):=by
 have R:=o.1.1
 have S:=o.1.2.1
 have T:=o.1.2.2.2.1
 refine Ql func267 rfl rfl ntmps267 fun X E W N Y P O=>acI 2 fun _=>w10 ?_
 refine lpK on.length (fun k=>NoneTo (fun c=> !(inC a c)) on k) (fun k=>⟨[(0,lP 0 0),(1,lf (.dat Qd a)),(2,lI more),(13,lf (.dat Qd on)),(14,lI (on.length:Int)),(15,lI (k:Int))],[bx 0 296 [.dat Qd ps,.dat Qd on,.dat Qd best,dB d]]⟩) (NoneTo.zero) ?_ fun k _ e=> ?_
 exact wo []
 refine w4 ?_
 cases y:(decide ((k:Int)<(on.length:Int)))
 have z:=ab y
 refine w6 ?_
 refine lc (dP 1 [] (QaH ps on best d a o.1.gd hb (QBJ e (by omega) B D)) Qnq)<|w_ ?_
 refine cb_ (fun _=> ?_) fun _=> ?_
 refine w_ ?_
 refine (?_:fin _ _ _ _ .normal _)
 exact fi_ [] E ⟨(((congrArg (fun z_=>some (Ent.box 296 [.dat Qd ps,.dat Qd on,.dat Qd z_,dB d])) (show (best:(Qd:Ty).Den)=((Yk (leS ps on more.toNat a) (best,d)).1) by exact (congrArg Prod.fst (QEm (st:=(best,d)) e (by omega) ‹_›)).symm))).trans (congrArg (fun z_=>some (Ent.box 296 [.dat Qd ps,.dat Qd on,.dat Qd ((Yk (leS ps on more.toNat a) (best,d)).1),dB z_])) (show (d:Bool)=((Yk (leS ps on more.toNat a) (best,d)).2) by exact (congrArg Prod.snd (QEm (st:=(best,d)) e (by omega) ‹_›)).symm))),trivial⟩
 refine w12 ?_
 refine Qc ?_
 refine (?_:fin _ _ _ _ .normal _)
 exact fi_ [] E ⟨(((congrArg (fun z_=>some (Ent.box 296 [.dat Qd ps,.dat Qd on,.dat Qd z_,dB true])) (show (a:(Qd:Ty).Den)=((Yk (leS ps on more.toNat a) (best,d)).1) by exact (congrArg Prod.fst (QEn (st:=(best,d)) e (by omega) ‹_›)).symm))).trans (congrArg (fun z_=>some (Ent.box 296 [.dat Qd ps,.dat Qd on,.dat Qd ((Yk (leS ps on more.toNat a) (best,d)).1),dB z_])) (show (true:Bool)=((Yk (leS ps on more.toNat a) (best,d)).2) by exact (congrArg Prod.snd (QEn (st:=(best,d)) e (by omega) ‹_›)).symm))),trivial⟩
 have z:=aa y
 refine w5 ?_
 obtain ⟨m,F⟩:=gx on k
 have l:=F
 refine w8 ?_
 refine lc (dK (QaP a m (fun x V=>o.2 x V _ (ah l))) QfG)<|w_ ?_
 cases U:(a.any (fun c=>ZK c m))
 refine w8 ?_
 refine alL 25 fun _=> ?_
 refine w4 ?_
 refine Qy (fun L M=>∃(j:Nat) (h:List BA) (i:Bool),j≤ps.length∧L=ps.length - j∧((h,i)=Yk (seK ps on a more m j) (best,d))∧(GdL h)∧(i=true→(h.length:Int)=(a.length:Int)+more)∧M=⟨[(0,lP 0 0),(1,lf (.dat Qd a)),(2,lI more),(7,lf (dS m)),(13,lf (.dat Qd on)),(14,lI (on.length:Int)),(15,lI (k:Int)),(25,lf (.dat Qd ps)),(26,lI (ps.length:Int)),(27,lI (j:Int))],[bx 0 296 [.dat Qd ps,.dat Qd on,.dat Qd h,dB i]]⟩) ⟨0,best,d,aL _,rfl,rfl,hb,D,rfl⟩ ?_ ?_
 exact wo []
 rintro L M ⟨j,h,i,J,K,w,C,n,rfl⟩
 refine w4 ?_
 cases r:(decide ((j:Int)<(ps.length:Int)))
 have t:=ab r
 refine w4 ?_
 exact fi_ [] E ⟨(((congrArg (fun z_=>some (Ent.box 296 [.dat Qd ps,.dat Qd on,.dat Qd z_,dB i])) (show (h:(Qd:Ty).Den)=((Yk (leS ps on more.toNat a) (best,d)).1) by exact (congrArg Prod.fst (QvB (st:=(h,i)) e l ‹_› (by omega) w)).symm))).trans (congrArg (fun z_=>some (Ent.box 296 [.dat Qd ps,.dat Qd on,.dat Qd ((Yk (leS ps on more.toNat a) (best,d)).1),dB z_])) (show (i:Bool)=((Yk (leS ps on more.toNat a) (best,d)).2) by exact (congrArg Prod.snd (QvB (st:=(h,i)) e l ‹_› (by omega) w)).symm))),trivial⟩
 have t:=aa r
 refine w5 ?_
 obtain ⟨v,A⟩:=gx ps j
 have f:=A
 refine w8 ?_
 cases s:(decide (0<more))
 have u:=ab s
 refine w11 ?_
 exact Qc<|Zb ⟨j+1,h,i,by omega,rfl,(by exact QEl f (fun g=>absurd g.1 ‹_›) w),(by exact C),(by exact n),rfl⟩ (by omega)<|wo []
 have u:=aa s
 refine w2 ?_
 refine lgy rfl rfl (dK (YA v m ((o.1.2.2.2.2 _ (ah f)).2 _ (ah l))) Wo)<|w2 ?_
 cases I:(ZK v m)
 refine w6 ?_
 exact Qc<|Zb ⟨j+1,h,i,by omega,rfl,(by exact QEl f (fun g=>absurd (g.2.symm.trans ‹_›) (by decide)) w),(by exact C),(by exact n),rfl⟩ (by omega)<|wo []
 refine w5 ?_
 refine lc (dK (Hz a v (by omega) (QbJ (c:=m) ‹_› ‹_›)) Qf1)<|w2 ?_
 refine lc (dP 2 [] (G ps on h i (Zc ltB v a) (more - 1) (o.next f ‹_› (QbJ (c:=m) ‹_› ‹_›)) C (QGn (QbJ (c:=m) ‹_› ‹_›) n) (QDX e l ‹_› f ‹_› ‹_› B) (by omega)) QfU)<|Qc<|w4 ?_
 exact Qc<|Zb ⟨j+1,((Yk (leS ps on (more - 1).toNat (Zc ltB v a)) (h,i)).1),((Yk (leS ps on (more - 1).toNat (Zc ltB v a)) (h,i)).2),by omega,rfl,(by exact QGH f ‹_› ‹_› w),(by exact (o.next f ‹_› (QbJ (c:=m) ‹_› ‹_›)).run (st:=(h,i)) C),(by exact QGG (st:=(h,i)) (QbJ (c:=m) ‹_› ‹_›) (QDX e l ‹_› f ‹_› ‹_› B) n),rfl⟩ (by omega)<|wo []
 refine w6 ?_
 exact Qc<|lK_ ((e.step l (congrArg (fun b=> !b) (by assumption:(a.any fun c=>ZK c m)=true))))<|wo []
def QaI (ps:List BA)(on:List BA)(best:List BA)(d:Bool)(a:List BA)(more:Int)(g:SeP ps on a more)(hb:GdL best)(f:d=true→(best.length:Int)=(a.length:Int)+more)(e:∀x∈leS ps on more.toNat a,(x.length:Int)=(a.length:Int)+more):FC prog 267 [(false,[.ptr 0 0]),(false,[.dat Qd a]),(false,[dI more])] [bx 0 296 [.dat Qd ps,.dat Qd on,.dat Qd best,dB d]] 1 (Is (PV.tup []) [bx 0 296 [.dat Qd ps,.dat Qd on,.dat Qd ((Yk (leS ps on more.toNat a) (best,d)).1),dB ((Yk (leS ps on more.toNat a) (best,d)).2)]]):=by
 have H:∀(h:Nat) (ps:List BA) (on:List BA) (best:List BA) (d:Bool) (a:List BA) (more:Int) (g:SeP ps on a more) (hb:GdL best) (f:d=true→(best.length:Int)=(a.length:Int)+more) (e:∀x∈leS ps on more.toNat a,(x.length:Int)=(a.length:Int)+more) (_:more.toNat=h),FC prog 267 [(false,[.ptr 0 0]),(false,[.dat Qd a]),(false,[dI more])] [bx 0 296 [.dat Qd ps,.dat Qd on,.dat Qd best,dB d]] 1 (Is (PV.tup []) [bx 0 296 [.dat Qd ps,.dat Qd on,.dat Qd ((Yk (leS ps on more.toNat a) (best,d)).1),dB ((Yk (leS ps on more.toNat a) (best,d)).2)]]):=fun h=>Nat.strongRecOn h fun h l=>fun ps on best d a more g hb f e i=>JZ (fun ps on best d a more g hb f e m=>l _ m ps on best d a more g hb f e rfl) ps on best d a more g hb f e i
 exact H _ ps on best d a more g hb f e rfl
def Qdg (n:Int)(on:List BA)(off:List BA)(r:0≤n∧n≤8)(m:∀c∈on,(c.size:Int)=n)(C:∀c∈off,(c.size:Int)=n)(F:on.length≤1000):FC prog 208 [(false,[dI n]),(false,[.dat Qd on]),(false,[.dat Qd off])] [] 0 (QJ (PV.tup [(false,[.dat Qd ((fmV (Wy (Yb n on off) on) 7 0).1)]),(false,[dB ((fmV (Wy (Yb n on off) on) 7 0).2)])])):=by
 refine Ql func208 rfl rfl ntmps208 fun H o G u I B A=>w9 ?_
 refine Qy (fun s t=>∃(a:Int),s=(7 - a).toNat∧(0≤a∧a≤7)∧(∀j:Nat,(j:Int)<a→(Wy (Yb n on off) on j).2=false)∧t=⟨[(0,lI n),(1,lf (.dat Qd on)),(2,lf (.dat Qd off)),(8,lI a)],[]⟩) ⟨0,rfl,by omega,(fun j J=>by omega),rfl⟩ ?_ ?_
 exact wo []
 rintro s t ⟨a,E,l,d,rfl⟩
 refine w5 ?_
 cases f:(decide (a≤6))
 have g:=ab f
 refine w7 ?_
 refine AC.wk (Qew (i:=6) 9 .str rfl)<|w_ ?_
 have v:([]:(Qd:Ty).Den)=((fmV (Wy (Yb n on off) on) 7 0).1):=by
  exact congrArg Prod.fst (lsB d (by omega))
 have w:(false:Bool)=((fmV (Wy (Yb n on off) on) 7 0).2):=by
  exact congrArg Prod.snd (lsB d (by omega))
 exact fr_ o (e:=by rw[v,← w] <;> rfl)
 have g:=aa f
 refine w8 ?_
 refine lc (dK (UT n on off r m C).frozen QfT)<|w_ ?_
 refine lc (Qh QwP ⟨_,_,rfl,(Qm rfl),⟨_,_,rfl,(Qm rfl),rfl⟩⟩ (ao.1 rfl) rfl rfl)<|xbx 0 ?_
 refine w2 ?_
 refine Q5<|AC.wk (UP (p:=0) [.dat Qd (Yb n on off),.dat Qd on,.dat Qd ([]),dB false] rfl ⟨_,_,rfl,.inl rfl,⟨_,_,rfl,.inl rfl,⟨_,_,rfl,.inr ⟨_,_,rfl,rfl⟩,⟨_,_,rfl,.inl rfl,rfl⟩⟩⟩⟩)<|w3 ?_
 refine lc (Qe7 1 [(0,0)] (QaI (Yb n on off) on ([]) false ([]:(Qd:Ty).Den) a (sp0 r m F l.1 (by omega)) gd0 (fun h=>by cases h) (QxX d l.1)) QfU ⟨_,_,rfl,(Qm rfl),⟨_,_,rfl,(Evl.ev Evl.nil),⟨_,_,rfl,(Qm rfl),rfl⟩⟩⟩ ⟨rfl,trivial⟩ rfl ⟨trivial,trivial⟩ (nlr rfl))<|w7 ?_
 cases D:(((Yk (leS (Yb n on off) on a.toNat ([]:(Qd:Ty).Den)) (([]),false)).2))
 refine w7 ?_
 exact Qc<|Zb ⟨(a+1),rfl,by omega,(QuR d l.1 ‹_›),rfl⟩ (by omega)<|wo []
 refine w10 ?_
 have y:(((Yk (leS (Yb n on off) on a.toNat ([]:(Qd:Ty).Den)) (([]),false)).1):(Qd:Ty).Den)=((fmV (Wy (Yb n on off) on) 7 0).1):=by
  exact congrArg Prod.fst (lsA d l.1 (by omega) ‹_›)
 have z:(true:Bool)=((fmV (Wy (Yb n on off) on) 7 0).2):=by
  ((rw[← lsA d l.1 (by omega) ‹_›]);exact (by assumption:(Wy _ _ _).2=true).symm)
 exact fr_ o (e:=by rw[y,← z] <;> rfl)
def mcV (n:Int)(on off:List BA):List BA:=if PrP n on off then (fmV (Wy (Yb n on off) on) 7 0).1 else []
def mcB (n:Int)(on off:List BA):Bool:=decide (PrP n on off)&&(fmV (Wy (Yb n on off) on) 7 0).2
def nfV [∀c,Decidable (SgOk c)](c:DSg)(sig:Int):List BA:=if Zn c sig Zp then mcV (c.1.length:Int) (QD c sig Zp).1 (QD c sig Zp).2 else []
def nfB [∀c,Decidable (SgOk c)](c:DSg)(sig:Int):Bool:=decide (Zn c sig Zp)&&mcB (c.1.length:Int) (QD c sig Zp).1 (QD c sig Zp).2
section
variable {n:Int}{ps on off l tk:List BA}{x c p code:BA}{k m:Nat}{f:Nat→List BA×Bool}{s:DSg}{sig:Int}
def QxZ (h:PrP n on off):mcV n on off=(fmV (Wy (Yb n on off) on) 7 0).1∧mcB n on off=(fmV (Wy (Yb n on off) on) 7 0).2:=by
 refine ⟨if_pos h,?_⟩
 unfold mcB;rw[ay h];rfl
def QDD (h:¬PrP n on off):mcV n on off=[]∧mcB n on off=false:=by
 refine ⟨if_neg h,?_⟩
 unfold mcB;rw[aj h];rfl
def Quc:∀(n k:Nat),(fmV f n k).2=true→∃i,i<n∧fmV f n k=f (k+i)∧(f (k+i)).2=true
 | 0,_,h=>by cases h
 | n+1,k,h=>by
  rw[fmV] at h ⊢
  by_cases e:(f k).2=true
  ·rw[if_pos e];exact ⟨0,by omega,rfl,e⟩
  ·rw[if_neg e] at h ⊢
   obtain ⟨i,d,a,b⟩:=Quc n (k+1) h
   exact ⟨i+1,by omega,by rw[a,show k+1+i=k+(i+1) by omega],by rw[show k+(i+1)=k+1+i by omega];exact b⟩
def Qpr:∀(m:Nat) {tk x:List BA},x∈leS ps on m tk→J2 on x=none∧∀p∈x,p∈ps∨p∈tk
 | m,tk,x,h=>by
  cases a:J2 on tk with
  | none=>
   rw[Wa a,aI] at h
   subst h;exact ⟨a,fun p i=> .inr i⟩
  | some c=>
   cases m with
   | zero=>simp only[leS,a] at h;cases h
   | succ m=>
    simp only[leS,a] at h
    obtain ⟨p,b,hx⟩:=cj.1 h
    split at hx
    ·obtain ⟨d,e⟩:=Qpr m hx
     refine ⟨d,fun q j=> ?_⟩
     rcases e q j with g|g
     ·exact .inl g
     ·rcases Z2.1 g with rfl|g
      ·exact .inl b
      ·exact .inr g
    ·cases hx
def QxB (h:J2 on l=none):∀c∈on,inC l c=true:=fun c a=>by
 have:=dC.1 h c a
 simpa using this
def Qfv {a:BA}{u:UInt8}(d:∀v∈a.toList,UL v)(e:UL u):∀v∈(a++⟨#[u]⟩:BA).toList,UL v:=fun v b=>by
 rw[bc,cN,cG,aO] at b
 rcases b with b|b
 ·exact d v (by rw[bc];exact b)
 ·have:v=u:=by simpa using b
  rw[this];exact e
def QhL:∀{n:Nat} {x:BA},x∈Q9 n→∀u∈x.toList,UL u
 | 0,x,h=>fun u a=>by
  rw[Q9,aI] at h;subst h
  rw[bc] at a;cases a
 | n+1,x,h=>by
  rw[Q9,cj] at h
  obtain ⟨c,b,h⟩:=h
  have:=QhL b
  simp only[cuF,aK,bO,or_false] at h
  rcases h with rfl|rfl|rfl
  ·exact Qfv this (.inr (.inr rfl))
  ·exact Qfv this (.inl rfl)
  ·exact Qfv this (.inr (.inl rfl))
def Qjk (h:mcB n on off=true):ZZ n (mcV n on off)∧(∀c∈on,inC (mcV n on off) c=true)∧∀c∈off,inC (mcV n on off) c=false:=by
 have d:PrP n on off:=by
  unfold mcB at h
  rw[aH,aY] at h;exact h.1
 rw[(QxZ d).2] at h
 rw[(QxZ d).1]
 obtain ⟨i,E,e,a⟩:=Quc 7 0 h
 rw[bJ] at e a
 rw[e]
 have v:=d.1.1
 have r:J2 on (Wy (Yb n on off) on i).1=none∧(∀p∈(Wy (Yb n on off) on i).1,p∈Yb n on off)∧(Wy (Yb n on off) on i).1.length≤6:=by
  refine Qln (fun l=>J2 on l=none∧(∀p∈l,p∈Yb n on off)∧l.length≤6) (xs:=leS (Yb n on off) on i []) (st:=([],false)) (fun l t=> ?_) (fun h=>by cases h) a
  obtain ⟨z,a⟩:=Qpr i t
  obtain ⟨j,D,A,_⟩:=QeP i t
  rw[aB] at A
  exact ⟨z,fun p q=>(a p q).elim id fun g=>(by cases g),by omega⟩
 obtain ⟨C,w,F⟩:=r
 refine ⟨⟨v,by omega,fun c o=> ?_⟩,QxB C,fun c o=> ?_⟩
 ·have u:=(bA.1 (w c o)).1
  exact ⟨QhL u,by rw[XC u];omega,v⟩
 ·cases y:inC (Wy (Yb n on off) on i).1 c with
  | false=>rfl
  | true=>
   obtain ⟨p,q,B⟩:=bG.1 y
   have b:=(bA.1 (w p q)).2
   unfold prB at b
   rw[aH,aH] at b
   have:QbX p off=true:=bG.2 ⟨c,o,B⟩
   rw[this] at b
   exact absurd b.2.1 (by decide)
section
variable [∀c,Decidable (SgOk c)](hT:Zn s sig Zp)(hx:s.2.1[k]? =some x)
include hT
include hx
end
end
section
variable {n:Int}{on off:List BA}
def QBi (h:OOk n on off):on.length≤1000:=by have:=h.2.1.2;omega
section
variable [∀c,Decidable (SgOk c)]{c:DSg}{sig:Int}
def QDR (h:Zn c sig Zp):nfV c sig=mcV (c.1.length:Int) (QD c sig Zp).1 (QD c sig Zp).2∧nfB c sig=mcB (c.1.length:Int) (QD c sig Zp).1 (QD c sig Zp).2:=by
 refine ⟨if_pos h,?_⟩
 unfold nfB;rw[ay h];rfl
def QGm (h:¬Zn c sig Zp):nfV c sig=[]∧nfB c sig=false:=by
 refine ⟨if_neg h,?_⟩
 unfold nfB;rw[aj h];rfl
end
end
def XG (n:Int)(on:List BA)(off:List BA):FC prog 133 [(false,[dI n]),(false,[.dat Qd on]),(false,[.dat Qd off])] [] 0 (QJ (PV.tup [(false,[.dat Qd (mcV n on off)]),(false,[dB (mcB n on off)])])):=by
 refine Ql func133 rfl rfl ntmps133 fun p d o f q m l=>acI 0 fun _=>w9 ?_
 refine lc (dG 0 (Qgc n on off) QmT)<|w10 ?_
 cases a:(decide (PrP n on off))
 have b:=ab a
 refine w5 ?_
 refine AC.wk (Qew (i:=6) 9 .str rfl)<|w_ ?_
 have g:([]:(Qd:Ty).Den)=(mcV n on off):=by
  exact (QDD ‹_›).1.symm
 have h:(false:Bool)=(mcB n on off):=by
  exact (QDD ‹_›).2.symm
 exact fr_ d (e:=by rw[g,← h] <;> rfl)
 have b:=aa a
 refine w6 ?_
 refine lc (dK (Qdg n on off (by have:=(by assumption:PrP n on off).1.1;omega) (Qzy (by assumption:PrP n on off).1) (Qvd (by assumption:PrP n on off).1) (QBi (by assumption:PrP n on off).1)) QmU)<|w6 ?_
 have j:((fmV (Wy (Yb n on off) on) 7 0).1:(Qd:Ty).Den)=(mcV n on off):=by
  exact (QxZ ‹_›).1.symm
 have k:((fmV (Wy (Yb n on off) on) 7 0).2:Bool)=(mcB n on off):=by
  exact (QxZ ‹_›).2.symm
 exact fr_ d (e:=by rw[j,k] <;> rfl)
def QrD:Go.Shelf.Ren:=⟨fun|156=>102|165=>177|166=>178|169=>179|240=>251|241=>252|276=>296|277=>297|n=>n,fun|31=>25|9=>9|3=>3|4=>4|0=>0|20=>20|72=>218|76=>222|70=>216|37=>22|75=>221|127=>282|164=>321|5=>5|80=>224|n=>n,fun|n=>n⟩
def QG6:Go.Proofs.Builder.Extra prog QrD:={
 sizeBuilder:=by kernel_rfl,
 liesBuilder:=by kernel_rfl,
 t5:=underlying5,
 a5:=isAgg5,
 z5:=sizeOf5,
 v5:=zeroValue5,
 infoByte:=by kernel_rfl,
 cellsByte:=by kernel_rfl,
 sizeByte:=by kernel_rfl,
 neB5:=by decide}
def jnB (l:List BA)(sep:BA):BA:=⟨(Lib.join (l.map fun x=>x.data.toList) sep.data.toList).toArray⟩
section
variable {l:List BA}{x y sep:BA}
end
end Go.Proofs.YtjfpbcmfbnnooaaGreat
