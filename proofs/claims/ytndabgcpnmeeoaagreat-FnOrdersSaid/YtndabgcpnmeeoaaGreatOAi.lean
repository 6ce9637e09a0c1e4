/- Abstract states: own slices whose elements own slices, opened cell by cell. No program is named here. -/
import Derived.Test.YtndabgcpnmeeoaaGreatOAf
set_option linter.unusedSimpArgs false
set_option linter.unusedVariables false
set_option linter.unusedSectionVars false
namespace Go.Proofs.YtndabgcpnmeeoaaGreat
open Go.RowKit
section
variable {al:Nat→Prop}{gh:Gh}{w:World}
theorem LOs.app {c f:List LV}{f1 b:List Nat}{c1 c2:List Value}(h:LOs al gh w c f1 c1)(k:LOs al gh w f b c2):LOs al gh w (c++f) (f1++b) (c1++c2):=by
 induction c generalizing f1 c1 with
 | nil=>obtain ⟨rfl,rfl⟩:=h; exact k
 | cons l q p=>obtain ⟨j,m,v,a,rfl,rfl,n,o⟩:=h; exact ⟨j,m++b,v,a++c2,by rw[aK],rfl,n,p o⟩
theorem QbX {a n:List LV}{f:List Nat}{c:List Value}(h:LOs al gh w (a++n) f c):∃f1 j c1 c2,f=f1++j∧c=c1++c2∧LOs al gh w a f1 c1∧LOs al gh w n j c2:=by
 induction a generalizing f c with
 | nil=>exact ⟨[],f,[],c,rfl,rfl,⟨rfl,rfl⟩,h⟩
 | cons l E C=>
  obtain ⟨k,D,v,o,rfl,rfl,r,u⟩:=h
  obtain ⟨m,q,b,p,rfl,rfl,z,B⟩:=C u
  exact ⟨k++m,q,v :: b,p,by rw[aK],rfl,⟨k,m,v,b,rfl,rfl,r,z⟩,B⟩
theorem LOs.len {ls:List LV}{f:List Nat}{cs:List Value}(h:LOs al gh w ls f cs):cs.length=ls.length:=by
 induction ls generalizing f cs with
 | nil=>rw[h.2]; rfl
 | cons l ls c=>obtain ⟨j,k,v,a,rfl,rfl,m,b⟩:=h; simp[c b]
theorem LOs.parts {ls:List LV}{f:List Nat}{cs:List Value}(h:LOs al gh w ls f cs){p:Nat}{l:LV}(u:ls[p]? =some l):
 ∃c f1 j a v b,f=c++(f1++j)∧cs=a++v :: b∧a.length=p∧LOs al gh w (ls.take p) c a∧LO al gh w l f1 v∧LOs al gh w (ls.drop (p+1)) j b:=by
 obtain ⟨m,k⟩:=ah.1 u
 have e:ls=ls.take p++l :: ls.drop (p+1):=by
  conv=>lhs; rw[← bR p ls,bU m,k]
 rw[e] at h
 obtain ⟨c,z,a,c2,rfl,rfl,n,o⟩:=QbX h
 obtain ⟨f1,j,v,b,rfl,rfl,q,r⟩:=o
 refine ⟨c,f1,j,a,v,b,rfl,rfl, ?_,n,q,r⟩
 rw[n.len,ao]; omega
theorem LOs.put {ls:List LV}{p:Nat}{l:LV}{f f1 b:List Nat}{c a:List Value}{v:Value}(m:p < ls.length)(h:LOs al gh w (ls.take p) f c)(j:LO al gh w l f1 v)(k:LOs al gh w (ls.drop (p+1)) b a):
 LOs al gh w (ls.set p l) (f++(f1++b)) (c++v :: a):=by
 rw[List.set_eq_take_append_cons_drop,if_pos m]
 exact h.app ⟨f1,b,v,a,rfl,rfl,j,k⟩
theorem Own.los:∀{t:Ty} {f:List Nat} {cs:List Value} {x:t.Den},Own t w f cs x→LOs al gh w (leaves t x) f cs
 | .int,f,cs,x,h=>by have j:=h.1; have c:=h.2.1; subst j; subst c; exact ⟨[],[],_,[],rfl,rfl,h,rfl,rfl⟩
 | .bool,f,cs,x,h=>by have j:=h.1; have c:=h.2; subst j; subst c; exact ⟨[],[],_,[],rfl,rfl,h,rfl,rfl⟩
 | .str,f,cs,x,h=>by have j:=h.1; have c:=h.2.1; subst j; subst c; exact ⟨[],[],_,[],rfl,rfl,h,rfl,rfl⟩
 | .u8,f,cs,x,h=>by have j:=h.1; have c:=h.2; subst j; subst c; exact ⟨[],[],_,[],rfl,rfl,h,rfl,rfl⟩
 | .vl,f,cs,x,h=>by have j:=h.1; have c:=h.2; subst j; subst c; exact ⟨[],[],_,[],rfl,rfl,h,rfl,rfl⟩
 | .sl E e,f,cs,x,h=>by
  have k:=h.len
  match cs,k with
  | [v],_=>exact ⟨f,[],v,[],by simp,rfl,h,rfl,rfl⟩
 | .pr a b,_,_,_,⟨f1,f2,l,r,rfl,rfl,c,h3⟩=>LOs.app (Own.los c) (Own.los h3)
theorem LOs.own:∀{t:Ty} {f:List Nat} {cs:List Value} {x:t.Den},LOs al gh w (leaves t x) f cs→Own t w f cs x
 | .int,f,cs,x,⟨k,m,v,cs',c,j,h3,h4,h5⟩=>by subst c; subst j; subst h4; subst h5; rw[bG]; exact h3
 | .bool,f,cs,x,⟨k,m,v,cs',c,j,h3,h4,h5⟩=>by subst c; subst j; subst h4; subst h5; rw[bG]; exact h3
 | .str,f,cs,x,⟨k,m,v,cs',c,j,h3,h4,h5⟩=>by subst c; subst j; subst h4; subst h5; rw[bG]; exact h3
 | .u8,f,cs,x,⟨k,m,v,cs',c,j,h3,h4,h5⟩=>by subst c; subst j; subst h4; subst h5; rw[bG]; exact h3
 | .vl,f,cs,x,⟨k,m,v,cs',c,j,h3,h4,h5⟩=>by subst c; subst j; subst h4; subst h5; rw[bG]; exact h3
 | .sl E e,f,cs,x,⟨k,m,v,cs',c,j,h3,h4,h5⟩=>by subst c; subst j; subst h4; subst h5; rw[bG]; exact h3
 | .pr a b,f,cs,x,h=>by
  obtain ⟨k,m,c1,c2,rfl,rfl,c,j⟩:=QbX h
  exact ⟨k,m,c1,c2,rfl,rfl,LOs.own c,LOs.own j⟩
def QR (e:Ty)(xs:List e.Den):List LV:=xs.flatMap (leaves e)
theorem OwnL.los {e:Ty}:∀{xs:List e.Den} {f:List Nat} {cs:List Value},OwnL (Own e w) f cs xs→LOs al gh w (QR e xs) f cs
 | [],_,_,h=>h
 | x :: xs,_,_,⟨f1,f2,c1,c2,rfl,rfl,h3,h4⟩=>by
  show LOs al gh w (leaves e x++QR e xs) _ _
  exact (Own.los h3).app (OwnL.los h4)
theorem LOs.ownL {e:Ty}:∀{xs:List e.Den} {f:List Nat} {cs:List Value},LOs al gh w (QR e xs) f cs→OwnL (Own e w) f cs xs
 | [],_,_,h=>h
 | x :: xs,_,_,h=>by
  have h:LOs al gh w (leaves e x++QR e xs) _ _:=h
  obtain ⟨a,b,c1,c2,rfl,rfl,c,j⟩:=QbX h
  exact ⟨a,b,c1,c2,rfl,rfl,LOs.own c,LOs.ownL j⟩
theorem Yz (e:Ty)(xs:List e.Den):(QR e xs).length=xs.length*e.wd:=by
 induction xs with
 | nil=>simp[QR]
 | cons x xs a=>
  show (leaves e x++QR e xs).length=_
  rw[ae,YC,a,aq,bT,dn,Nat.add_comm]
theorem KN {e:Ty}{xs:List e.Den}{i j:Nat}{x:e.Den}{l:LV}(a:xs[i]? =some x)(b:(leaves e x)[j]? =some l):(QR e xs)[i*e.wd+j]? =some l:=by
 induction xs generalizing i with
 | nil=>simp at a
 | cons y h f=>
  show (leaves e y++QR e h)[_]? =_
  have c:j < e.wd:=by rw[← YC e x]; exact (ah.1 b).1
  cases i with
  | zero=>
   simp at a
   subst a
   rw[Nat.zero_mul,cd,bf (by rw[YC]; exact c)]
   exact b
  | succ i=>
   rw[bk (by rw[YC,bT]; omega),YC]
   rw[show (i+1)*e.wd+j - e.wd=i*e.wd+j by rw[bT]; omega]
   exact f (by simpa using a)
theorem KO {e:Ty}{xs:List e.Den}{i j:Nat}{x x':e.Den}{l:LV}(a:xs[i]? =some x)(f:leaves e x'=(leaves e x).set j l)(c:j < e.wd):QR e (xs.set i x')=(QR e xs).set (i*e.wd+j) l:=by
 induction xs generalizing i with
 | nil=>simp at a
 | cons y b h=>
  cases i with
  | zero=>
   simp at a
   subst a
   show leaves e x'++QR e b=(leaves e y++QR e b).set _ l
   rw[Nat.zero_mul,cd,List.set_append_left _ _ (by rw[YC]; exact c),f]
  | succ i=>
   show leaves e y++QR e (b.set i x')=(leaves e y++QR e b).set _ l
   rw[List.set_append_right _ _ (by rw[YC,bT]; omega),YC,h (by simpa using a)]
   congr 2
   rw[bT]; omega
end
theorem QcX (e:Ty):∀(xs:List e.Den),QJ (QR e xs)=[]
 | []=>rfl
 | x :: xs=>by rw[show QR e (x :: xs)=leaves e x++QR e xs from rfl,Vl,J6,QcX e xs]; rfl
section
variable {A:Amb}{P:Program}{s:St}{x y:Operand}{d:Nat}{T T' ty:TypeId}{pos:String}{af:Array Edge}{g:Option (Nat×Bool)}
theorem KK {q:Nat}{E:TypeId}{e:Ty}{xs:List e.Den}(m:s.tab.ent q=some (.arr E e xs))(C:0 < xs.length):Wk A s ⟨s.tm,(q,some (.obx E e.wd xs.length (QR e xs) [])) :: s.tab⟩:=fun a w r=>by
 obtain ⟨gh,r⟩:=r
 have B:Own (.sl E e) w (gh.f q) [gh.h q] xs:=r.cx.en q _ m
 rcases B with ⟨_,_,h⟩ | ⟨b,c,j,fps,n,k,o,p,u,v,z⟩
 ·subst h; simp at C
 ·simp only[aD,and_true] at k
  exact ⟨gh,r.mod m (QV w) (fun _ _ _=>rfl) ⟨QcX e xs,b,c,j,fps,k,n,o,p,u,v,Yz e xs,z.los⟩⟩
theorem V9 {q n:Nat}{E:TypeId}{e:Ty}{ls:List LV}{h:List (Nat×LV)}(xs:List e.Den)(f:s.tab.ent q=some (.obx E e.wd n ls h))(C:n=xs.length)(B:ovr ls h=QR e xs):Wk A s ⟨s.tm,(q,some (.arr E e xs)) :: s.tab⟩:=fun a w r=>by
 subst C
 obtain ⟨gh,r⟩:=r
 obtain ⟨j,g,b,c,fps,k,m,o,p,u,v,D,z⟩:=r.cx.en q _ f
 refine ⟨gh,r.mod f (QV w) (fun _ _ _=>rfl) ?_⟩
 refine .inr ⟨g,b,c,fps,m,by rw[k],o,p,u,v,(B▸z).ownL⟩
theorem XC (t:Nat){q wd n p:Nat}{E E':TypeId}{e':Ty}{ys:List e'.Den}{ls:List LV}{W:List (Nat×LV)}(he:s.tab.ent q=some (.obx E wd n ls W))(hl:(ovr ls W)[p]? =some (.dat (.sl E' e') ys))(V:Fresh s t)(a8:A.k0≤t):
 Wk A s ⟨s.tm,(t,some (.arr E' e' ys)) :: (q,some (.obx E wd n ls ((p, .ref t) :: W))) :: s.tab⟩:=fun a w r=>by
 obtain ⟨gh,r⟩:=r
 have hq:s.tab.al q:=⟨_,he⟩
 have b1:q≠t:=fun h=>V.al (h▸hq)
 obtain ⟨a1,g,a5,a6,fps,h1,h2,h3,h4,h5,h6,h7,h8⟩:=r.cx.en q _ he
 obtain ⟨fa,f1,fb,ca,v,cb,k1,k2,k3,k4,k5,k6⟩:=h8.parts hl
 have hO:Own (.sl E' e') w f1 [v] ys:=k5
 have b0:p < (ovr ls W).length:=(ah.1 hl).1
 have a2:=r.cx.nd q hq
 rw[h2,k1] at a2
 have O:=(bj.1 a2)
 have H:=aT.1 O.2
 have R:=aT.1 H.2.1
 let j:Gh:=⟨fun r=>if r=t then v else gh.h r,fun r=>if r=t then f1 else if r=q then g :: (fa++fb) else gh.f r,gh.N⟩
 have B:∀r,Tab.al ((t,some (.arr E' e' ys)) :: (q,some (.obx E wd n ls ((p, .ref t) :: W))) :: s.tab) r→r=t∨(r≠t∧s.tab.al r):=fun m h=>by
  by_cases K:m=t
  ·exact .inl K
  ·refine .inr ⟨K, ?_⟩
   obtain ⟨Z,h⟩:=h
   rw[Qd,if_neg K,Qd] at h
   by_cases C:m=q
   ·rw[C]; exact hq
   ·rw[if_neg C] at h; exact ⟨_,h⟩
 have z:∀x∈f1,x∈gh.f q:=fun x o=>by rw[h2,k1]; simp[o]
 have a0:∀x∈g :: (fa++fb),x∈gh.f q:=fun x o=>by
  rw[h2,k1]
  simp only[aE,aG] at o ⊢
  rcases o with h | h | h <;> simp[h]
 have X:∀x∈f1,x∉g :: (fa++fb):=fun x o D=>by
  rcases aE.1 D with rfl | D
  ·exact O.1 (aN _ (aH _ o))
  ·rcases aG.1 D with D | D
   ·exact H.2.2 x D x (aH _ o) rfl
   ·exact R.2.2 x o x D rfl
 have J:∀m,m≠t→∀x∈j.f m,x∈gh.f m:=fun m K x o=>by
  simp only[j,if_neg K] at o
  by_cases Z:m=q
  ·rw[if_pos Z] at o; rw[Z]; exact a0 x o
  ·rw[if_neg Z] at o; exact o
 have M:j.f t=f1:=by simp[j]
 have U:j.f q=g :: (fa++fb):=by simp[j,b1]
 have F:=r.step (T:=(t,some (.arr E' e' ys)) :: (q,some (.obx E wd n ls ((p, .ref t) :: W))) :: s.tab) (gh':=j) (w':=w) ?_ ?_ (fun g hg=>⟨hg,rfl⟩) (QV w) (fun _ _ _=>rfl) (fun g hg=> .inl hg) ?_
 ·exact ⟨j,F⟩
 ·refine ⟨fun m Z h=> ?_,fun a b I S a3 x o G=> ?_,fun m h=> ?_,fun m h x o=> ?_,r.cx.nl⟩
  ·rw[Qd] at h
   by_cases K:m=t
   ·rw[if_pos K] at h
    cases h
    subst K
    show Own (.sl E' e') w (j.f m) [j.h m] ys
    simpa [j] using hO
   ·rw[if_neg K,Qd] at h
    by_cases C:m=q
    ·rw[if_pos C] at h
     cases h
     subst C
     refine ⟨a1,g,a5,a6,fa++fb,by simp[j,K,h1],U,h3,h4,h5,h6,by simpa [ovr] using h7, ?_⟩
     rw[k2]
     have D:∀(l:List LV) (f:List Nat) (c:List Value),(∀m∈QJ l,m≠t)→LOs s.tab.al gh w l f c→LOs (Tab.al ((t,some (.arr E' e' ys)) :: (m,some (.obx E wd n ls ((p, .ref t) :: W))) :: s.tab)) j w l f c:=fun l f c a9 h=>h.mono (fun F u I=>by
      rcases B F I with h9 | ⟨h9,L⟩
      ·exact absurd h9 (a9 F u)
      ·exact ⟨L,by simp[j,h9]⟩) fun _ _=>rfl
     have Y:∀F∈QJ (ovr ls W),F≠t:=fun F u h=>V.en m _ he (by show t∈QaP W; rw[← h]; exact Qfz a1 F u)
     have a4:=LOs.put (p:=p) (l:= .ref t) (f1:=[]) (v:=v) b0 (D _ _ _ (fun F u=>Y F (Qib p F u)) k4) ⟨rfl,Rep.one hO.rep v (by simp),fun _=>by simp[j]⟩ (D _ _ _ (fun F u=>Y F (Qia _ F u)) k6)
     simpa [ovr] using a4
    ·rw[if_neg C] at h
     have h9:=r.cx.en m Z h
     refine h9.mono (fun F u I=> ?_) (fun g hg=>⟨hg,rfl⟩) (by simp[j,K]) (by simp[j,K,C]) fun _ _=>rfl
     rcases B F I with L | ⟨L,a7⟩
     ·exact absurd (L▸u) (V.en m Z h)
     ·exact ⟨a7,by simp[j,L]⟩
  ·rcases B a I with I | ⟨I,ka⟩ <;> rcases B b S with S | ⟨S,kb⟩
   ·exact a3 (I.trans S.symm)
   ·subst I
    rw[M] at o
    by_cases C:b=q
    ·subst C; rw[U] at G; exact X x o G
    ·exact r.cx.dj q b hq kb (fun h=>C h.symm) x (z x o) (J b S x G)
   ·subst S
    rw[M] at G
    by_cases C:a=q
    ·subst C; rw[U] at o; exact X x G o
    ·exact r.cx.dj q a hq ka (fun h=>C h.symm) x (z x G) (J a I x o)
   ·exact r.cx.dj a b ka kb a3 x (J a I x o) (J b S x G)
  ·rcases B m h with h | ⟨h,k⟩
   ·subst h; rw[M]; exact R.1
   ·by_cases C:m=q
    ·subst C
     rw[U]
     refine bj.2 ⟨fun D=>O.1 (by
      rcases aG.1 D with D | D
      ·exact aH _ D
      ·exact aN _ (aN _ D)),aT.2 ⟨H.1,R.2.1,fun a I b S=>H.2.2 a I b (aN _ S)⟩⟩
    ·have:j.f m=gh.f m:=by simp[j,h,C]
     rw[this]; exact r.cx.nd m k
  ·rcases B m h with h | ⟨h,k⟩
   ·subst h; rw[M] at o; exact r.cx.no q hq x (z x o)
   ·exact r.cx.no m k x (J m h x o)
 ·intro m h
  rcases B m h with h | ⟨h,k⟩
  ·exact .inr ⟨h▸V,h▸a8⟩
  ·exact .inl ⟨k,by simp[j,h],fun _=>rfl⟩
 ·intro m h x o
  rcases B m h with h | ⟨h,k⟩
  ·subst h; rw[M] at o; exact .inr ⟨q,hq,z x o⟩
  ·exact .inr ⟨m,k,J m h x o⟩
theorem Wo {q t Z n p:Nat}{E E':TypeId}{e':Ty}{ys:List e'.Den}{ls:List LV}{R:List (Nat×LV)}(he:s.tab.ent q=some (.obx E Z n ls R))(hl:(ovr ls R)[p]? =some (.ref t))(ht:s.tab.ent t=some (.arr E' e' ys)):
 Wk A s ⟨s.tm,(q,some (.obx E Z n ls ((p, .dat (.sl E' e') ys) :: R))) :: (t,none) :: s.tab⟩:=fun a w r=>by
 obtain ⟨gh,r⟩:=r
 have hq:s.tab.al q:=⟨_,he⟩
 have u:s.tab.al t:=⟨_,ht⟩
 have a6:q≠t:=fun h=>by rw[h,ht] at he; cases he
 obtain ⟨a2,g,a0,a1,fps,h1,h2,h3,h4,h5,h6,h7,h8⟩:=r.cx.en q _ he
 obtain ⟨fa,f1,fb,ca,v,cb,k1,k2,k3,k4,k5,k6⟩:=h8.parts hl
 obtain ⟨rfl,a8,hv⟩:=k5
 have hv:=hv u
 have hO:Own (.sl E' e') w (gh.f t) [gh.h t] ys:=r.cx.en t _ ht
 have a5:p < (ovr ls R).length:=(ah.1 hl).1
 rw[bN] at k1
 have J:=r.cx.nd q hq
 rw[h2,k1] at J
 let k:Gh:=⟨gh.h,fun r=>if r=q then g :: (fa++(gh.f t++fb)) else gh.f r,gh.N⟩
 have m:∀r,Tab.al ((q,some (.obx E Z n ls ((p, .dat (.sl E' e') ys) :: R))) :: (t,none) :: s.tab) r→r≠t∧s.tab.al r:=fun j h=>by
  obtain ⟨e2,h⟩:=h
  rw[Qd] at h
  by_cases B:j=q
  ·rw[B]; exact ⟨a6,hq⟩
  ·rw[if_neg B,Qd] at h
   by_cases S:j=t
   ·rw[if_pos S] at h; cases h
   ·rw[if_neg S] at h; exact ⟨S,_,h⟩
 have K:k.f q=g :: (fa++(gh.f t++fb)):=by simp[k]
 have z:∀j,∀x∈k.f j,x∈gh.f j∨(j=q∧x∈gh.f t):=fun j x C=>by
  by_cases B:j=q
  ·subst B
   rw[K] at C
   rw[h2,k1]
   simp only[aE,aG] at C ⊢
   rcases C with h | h | h | h
   ·exact .inl (.inl h)
   ·exact .inl (.inr (.inl h))
   ·exact .inr ⟨trivial,h⟩
   ·exact .inl (.inr (.inr h))
  ·simp only[k,if_neg B] at C; exact .inl C
 have Y:=r.step (T:=(q,some (.obx E Z n ls ((p, .dat (.sl E' e') ys) :: R))) :: (t,none) :: s.tab) (gh':=k) (w':=w) ?_ ?_ (fun g W=>⟨W,rfl⟩) (QV w) (fun _ _ _=>rfl) (fun g W=> .inl W) ?_
 ·exact ⟨k,Y⟩
 ·refine ⟨fun j e2 h=> ?_,fun a b G H X x C O=> ?_,fun j h=> ?_,fun j h x C=> ?_,r.cx.nl⟩
  ·rw[Qd] at h
   by_cases B:j=q
   ·rw[if_pos B] at h
    cases h
    subst B
    refine ⟨a2,g,a0,a1,fa++(gh.f t++fb),h1,K,h3,h4,h5,h6,by simpa [ovr] using h7, ?_⟩
    rw[k2]
    have F:∀(l:List LV) (f:List Nat) (c:List Value),LOs s.tab.al gh w l f c→LOs (Tab.al ((j,some (.obx E Z n ls ((p, .dat (.sl E' e') ys) :: R))) :: (t,none) :: s.tab)) k w l f c:=fun l f c h=>h.mono (fun Y a7 G=>⟨(m Y G).2,rfl⟩) fun _ _=>rfl
    rw[← hv] at hO
    exact LOs.put a5 (F _ _ _ k4) hO (F _ _ _ k6)
   ·rw[if_neg B,Qd] at h
    by_cases S:j=t
    ·rw[if_pos S] at h; cases h
    ·rw[if_neg S] at h
     exact (r.cx.en j e2 h).mono (fun Y a7 G=>⟨(m Y G).2,rfl⟩) (fun g W=>⟨W,rfl⟩) rfl (by simp[k,B]) fun _ _=>rfl
  ·obtain ⟨a3,U⟩:=m a G
   obtain ⟨a4,V⟩:=m b H
   rcases z a x C with h | ⟨rfl,h⟩ <;> rcases z b x O with D | ⟨rfl,D⟩
   ·exact r.cx.dj a b U V X x h D
   ·exact r.cx.dj a t U u a3 x h D
   ·exact r.cx.dj b t V u a4 x D h
   ·exact X rfl
  ·obtain ⟨h9,o⟩:=m j h
   by_cases B:j=q
   ·subst B
    rw[K]
    have L:=bj.1 J
    have M:=aT.1 L.2
    have I:∀x∈gh.f t,x∉gh.f j:=fun x C O=>r.cx.dj t j u hq (fun h=>h9 h.symm) x C O
    rw[h2,k1] at I
    refine bj.2 ⟨fun F=> ?_,aT.2 ⟨M.1,aT.2 ⟨r.cx.nd t u,M.2.1,fun a G b H e=>by subst e; exact I a G (by simp[H])⟩,fun a G b H e=> ?_⟩⟩
    ·simp only[aG] at F
     rcases F with F | F | F
     ·exact L.1 (aH _ F)
     ·exact I g F (by simp)
     ·exact L.1 (aN _ F)
    ·subst e
     rcases aG.1 H with H | H
     ·exact I a H (by simp[G])
     ·exact M.2.2 a G a H rfl
   ·have:k.f j=gh.f j:=by simp[k,B]
    rw[this]; exact r.cx.nd j o
  ·obtain ⟨h9,o⟩:=m j h
   rcases z j x C with D | ⟨rfl,D⟩
   ·exact r.cx.no j o x D
   ·exact r.cx.no t u x D
 ·intro j h
  obtain ⟨h9,o⟩:=m j h
  exact .inl ⟨o,rfl,fun _=>rfl⟩
 ·intro j h x C
  obtain ⟨h9,o⟩:=m j h
  rcases z j x C with D | ⟨rfl,D⟩
  ·exact .inr ⟨j,o,D⟩
  ·exact .inr ⟨t,u,D⟩
theorem Zc {q b n:Nat}{E E':TypeId}{ls:List LV}{F:List (Nat×LV)}{i:Int}{k:Bool}(C:Evl A s x (.ref q))(f:s.tab.ent q=some (.obx E b n ls F))(D:Evl A s y (dI i))(u:P.underlying T=some (.slice E'))(p:tsh P E'=some (k,b))(z:Nat.blt d A.n=true)
 (h0:0≤i) (h1:i < n):Does A P ⟨some d, .indexAddr T x y,ty,pos,af,g⟩ s (s.put d (lf (.ept q b i.toNat 0))):=
 Qi rfl z fun gh a w r=>by
  have v:=D.i r
  have B:a.eval x=gh.h q:=C gh a w r ⟨_,f⟩
  obtain ⟨o,g,c,m,fps,j,G,H,I,J,K,L,M⟩:=r.cx.en q _ f
  refine ⟨.pointer (some ⟨g,0+i.toNat*b,none⟩), ?_,_,rfl,fun _=>⟨g,n,c,j,by simp⟩⟩
  simp only[execOp,B,j,v,ay,Vp u p h0 h1]
  simp
theorem Qsd {gh:Gh}{a:Act}{w:World}(r:Rg A s gh a w){q o n p:Nat}{E:TypeId}{ls:List LV}{k:List (Nat×LV)}{l:LV}(F:s.tab.ent q=some (.obx E o n ls k))(H:(ovr ls k)[p]? =some l){g m c:Nat}(G:gh.h q= .slice (some ⟨g,0,none⟩) m c):
 ∃f v,LO s.tab.al gh w l f v∧w.cell? ⟨g,p,none⟩=some v:=by
 obtain ⟨B,R,u,b,fps,j,S,C,U,V,W,X,D⟩:=r.cx.en q _ F
 rw[G] at j
 simp only[Value.slice.injEq,bC,Addr.mk.injEq,and_true] at j
 obtain ⟨rfl,_,_⟩:=j
 obtain ⟨N,z,O,L,v,M,Y,I,J,Z,K,k6⟩:=D.parts H
 refine ⟨z,v,K, ?_⟩
 have:(b.toList.take (n*o))[p]? =some v:=by
  rw[I,bk (by omega),J,dJ]; rfl
 rw[bw] at this
 split at this
 ·simp only[World.cell?,C]
  simpa using this
 ·cases this
theorem YR {q b i j n m t:Nat}{E:TypeId}{ls:List LV}{o:List (Nat×LV)}{E':TypeId}{e':Ty}{ys:List e'.Den}(D:Evl A s x (.ept q b i j))(k:s.tab.ent q=some (.obx E b n ls o))(B:(ovr ls o)[i*b+j]? =some (.ref t))(H:s.tab.ent t=some (.arr E' e' ys))(z:tsh P T=some (false,m))(C:Nat.blt d A.n=true):
 Does A P ⟨some d, .load T x,ty,pos,af,g⟩ s (s.put d (lf (.ref t))):=
 Qi rfl C fun gh a w r=>by
  obtain ⟨g,I,c,p,u⟩:=D gh a w r ⟨_,k⟩
  obtain ⟨f,v,F,G⟩:=Qsd r k B p
  refine ⟨v, ?_,_,rfl,fun h=>F.2.2 h⟩
  simp only[execOp,u,Instr.loadAt,Instr.sureAddr,ay,bl,aI,Z3 z _ v G]
theorem Ys {q k i j n t H:Nat}{E E':TypeId}{e':Ty}{ys:List e'.Den}{ls:List LV}{R:List (Nat×LV)}(I:Evl A s x (.ept q k i j))(N:s.tab.ent q=some (.obx E k n ls R))(hl:(ovr ls R)[i*k+j]? =some (.ref t))(hy:Evl A s y (.ref H))(ht:s.tab.ent H=some (.arr E' e' ys))(hT:tsh P T=some (false,1)):
 Does A P ⟨none, .store T x y,ty,pos,af,g⟩ s ⟨s.tm,(q,some (.obx E k n ls ((i*k+j, .ref H) :: R))) :: s.tab⟩:=fun a w K Q r hK=>by
 obtain ⟨gh,r⟩:=r
 obtain ⟨g,L,c,h1,h2⟩:=I gh a w r ⟨_,N⟩
 have O:a.eval y=gh.h H:=hy gh a w r ⟨_,ht⟩
 have m:(gh.h H).oneCell'=true:=(r.cx.en H _ ht).oneCell
 obtain ⟨S,g',a1,z,fps,p1,p2,p3,p4,p5,p6,p7,p8⟩:=r.cx.en q _ N
 rw[h1] at p1
 simp only[Value.slice.injEq,bC,Addr.mk.injEq,and_true] at p1
 obtain ⟨rfl,rfl,rfl⟩:=p1
 obtain ⟨fa,f1,fb,u,v,C,Z,k2,k3,k4,k5,k6⟩:=p8.parts hl
 obtain ⟨rfl,_,_⟩:=k5
 have Y:i*k+j < (ovr ls R).length:=(ah.1 hl).1
 have a0:L*k≤z.size:=by rw[p6]; exact cA _ p4
 have D:(a.eval y).cells=[a.eval y].toArray:=by
  rw[O]; cases hq:gh.h H <;> first | rfl | (rw[hq] at m; simp[Value.oneCell'] at m)
 have U:=Ja (P:=P) (w:=w) (b:=g) (o:=i*k+j) hT (a.eval y) [a.eval y] D rfl p3 (by omega) (by rw[O]; simpa using m)
 have e0:(execOp a.eval ⟨none, .store T x y,ty,pos,af,‹_›⟩).run P w= .ok .skip (WI w g (i*k+j) [a.eval y]):=by
  simp only[execOp,h2,Instr.storeAt,Instr.sureAddr,ay,bl,aI,U]
 unfold Oper.wp
 rw[e0,Oper.upon_skip]
 obtain ⟨F,m1,m2,m3⟩:=Uo g E (0,0) [a.eval y] w (i*k+j) z p3 (by simp; omega)
 have G:∀J,J≠g→(WI w g (i*k+j) [a.eval y]).heap[J]? =w.heap[J]? :=fun J h=>YW _ _ _ _ _ h
 have hN:(g :: fps).Nodup:=by rw[← p2]; exact r.cx.nd q ⟨_,N⟩
 refine hK _ _ ⟨gh,r.mod N (Ky _ _ _ _) (fun J _ W=>G J fun h=>W (by rw[p2,h]; simp)) ⟨S,g,c,F,fps,h1,p2,m1,p4,p5,by rw[m2]; exact p6,by simpa [ovr] using p7, ?_⟩⟩
 have B:∀(l:List LV) (f:List Nat) (c:List Value),(∀x∈f,x∈fps)→LOs s.tab.al gh w l f c→LOs s.tab.al gh (WI w g (i*k+j) [a.eval y]) l f c:=fun l f c hf h=>h.mono (fun _ _ h=>⟨h,rfl⟩) fun x I=>G x fun h=>(bj.1 hN).1 (h▸hf x I)
 have M:=LOs.put (p:=i*k+j) (l:= .ref H) (f1:=[]) (v:=a.eval y) Y (B _ _ _ (fun x I=>by rw[Z]; simp[I]) k4) ⟨rfl,by rw[O]; exact m,fun _=>O⟩ (B _ _ _ (fun x I=>by rw[Z]; simp[I]) k6)
 rw[Z]
 have e2:F.toList.take (L*k)=u++a.eval y :: C:=by
  have V:(u++v :: C).length=L*k:=by rw[← k2]; simp; omega
  have e3:z.toList=u++v :: C++z.toList.drop (L*k):=by rw[← k2,bR]
  rw[m3]
  generalize z.toList.drop (L*k)=rest at e3
  rw[e3,← k3]
  have t1:(u++v :: C++rest).take u.length=u:=by rw[aK,dF]
  have t2:(u++v :: C++rest).drop (u.length+[a.eval y].length)=C++rest:=by
   rw[aK]
   show (u++(v :: C++rest)).drop (u.length+1)=_
   rw[List.drop_length_add_append]
   rfl
  rw[t1,t2]
  have X:(u++a.eval y :: C).length=L*k:=by simpa using V
  rw[show u++[a.eval y]++(C++rest)=(u++a.eval y :: C)++rest by simp,← X,dF]
 rw[e2]
 exact M
end
def QqC:List LV→List LV→Prop
 | [],ls'=>ls'=[]
 | l :: ls,ls'=>∃l' r,ls'=l' :: r∧(l=l'∨∃E e,l= .val (.slice none 0 0)∧l'= .dat (.sl E e) [])∧QqC ls r
section
variable {A:Amb}{s:St}
theorem LVs.nils {al:Nat→Prop}{gh:Gh}{w:World}{ls ls':List LV}{vs:List Value}(h:LVs al gh w ls vs)(k:QqC ls ls'):LVs al gh w ls' vs:=by
 induction ls generalizing ls' vs with
 | nil=>rw[show ls'=[] from k]; exact h
 | cons l ls m=>
  obtain ⟨v,a,rfl,b,c⟩:=h
  obtain ⟨n,r,rfl,f,j⟩:=k
  refine ⟨v,a,rfl, ?_,m c j⟩
  rcases f with rfl | ⟨E,e,rfl,rfl⟩
  ·exact b
  ·rw[show v= .slice none 0 0 from b]
   have:Own (.sl E e) w [] [.slice none 0 0] []:= .inl ⟨rfl,rfl,rfl⟩
   exact this.rd (by simp)
theorem Ev.nils {x:Operand}{b:Bool}{ls ls':List LV}(h:Ev A s x (b,ls))(k:QqC ls ls'):Ev A s x (b,ls'):=fun gh a w r=>by
 have j:=h gh a w r
 cases b with
 | true=>obtain ⟨n,o,c⟩:=j; exact ⟨n,o,c.nils k⟩
 | false=>
  obtain ⟨l,rfl,c⟩:=j
  obtain ⟨f,r,rfl,p,q⟩:=k
  rw[show r=[] from q]
  have u:LVs s.tab.al gh w [l] [a.eval x]:=⟨_,[],rfl,c,rfl⟩
  obtain ⟨v,n,m,z,_⟩:=u.nils (ls':=[f]) ⟨f,[],rfl,p,rfl⟩
  simp only[aD] at m
  exact ⟨f,rfl,m.1▸z⟩
theorem Qt9 {x:Operand}{ls:List LV}{i:Nat}{n:Int}(h:Ev A s x (true,ls))(hi:ls[i]? =some (dI n)):∀gh a w,Rg A s gh a w→ -9223372036854775808≤n∧n≤9223372036854775807:=fun gh a w r=>by
 obtain ⟨j,f,b⟩:=h gh a w r
 obtain ⟨v,_,c⟩:=b.get hi
 exact (LVR.int c).2
end
theorem Qqu {P:Program}{f:FuncId}{args:List (Bool×List LV)}{T:Tab}{k:Nat}{O:PV→Tab→Prop}(h:∀a,a=O→FC P f args T k a):FC P f args T k O:=h O rfl
theorem Qn {P:Program}{f n:Nat}{fn:Func}{c:Code}{args:List (Bool×List LV)}{T:Tab}{k:Nat}{O:PV→Tab→Prop}(q:P.funcs[f]? =some fn)(hb:fn.body=some c)(u:Nat.ble args.length fn.ntmps=true)(v:fn.ntmps=n)
 (h:∀b,b=O→∀m a X h0 j,AC ⟨m,a,X,n,k,h0,j⟩ P c (fin ⟨m,a,X,n,k,h0,j⟩ P fn (Qao b k)) ⟨Qb5 0 args,T⟩):FC P f args T k O:=
 Qqu fun b o=>FC.ren (Qxk q hb u fun A p r=>by
  obtain ⟨m,a,X,B,z,h0,j⟩:=A
  obtain rfl:B=n:=p.trans v
  obtain rfl:z=k:=r
  exact h b o m a X h0 j)
section
variable {A:Amb}{P:Program}{s s':St}{Q:Exit→St→Prop}{ops:Array Oper}{l:List Oper}{op:Op}{d:Option Nat}{e:Nat}{ty:TypeId}{pos:String}{af:Array Edge}
theorem lc (h:Does A P ⟨d,op,ty,pos,af,none⟩ s s')(k:AL A P ops l Q s'):AL A P ops (⟨d,op,ty,pos,af,none⟩ :: l) Q s:=AL.cons rfl h k
theorem lm {t:Nat}{pv:PV}(h:lk s.tm t=some pv)(a:Nat.blt e A.n=true)(k:AL A P ops l Q (s.put e pv)):AL A P ops (⟨some e, .move (.tmp t),ty,pos,af,none⟩ :: l) Q s:=AL.cons rfl (Hk h a) k
theorem la {t:Nat}{pv:PV}(h:lk s.tm t=some pv)(a:Nat.blt e A.n=true)(k:AL A P ops l Q (s.put e pv)):AL A P ops (⟨some e, .assign (.tmp t),ty,pos,af,none⟩ :: l) Q s:=AL.cons rfl (UA h a) k
theorem ac {a:St}(h:Does A P ⟨d,op,ty,pos,af,none⟩ s s')(e:s'=a):Acts A P ops ⟨d,op,ty,pos,af,none⟩ s a:=QiS rfl h e
theorem am {t:Nat}{pv:PV}{a:St}(h:lk s.tm t=some pv)(c:Nat.blt e A.n=true)(b:s.put e pv=a):Acts A P ops ⟨some e, .move (.tmp t),ty,pos,af,none⟩ s a:=QiS rfl (Hk h c) b
end
@[reducible] def lI (x:Int):PV:=lf (dI x)
@[reducible] def lB (x:Bool):PV:=lf (dB x)
@[reducible] def lP (q o:Nat):PV:=lf (.ptr q o)
@[reducible] def lR (q:Nat):PV:=lf (.ref q)
@[reducible] def io (d:Nat) (p:PV):Item:=⟨some d,p,[]⟩
@[reducible] def iu (d:Nat):Item:=io d (lf (.val undef))
def dm:Nat→Nat→Nat→List Nat
 | 0,_,_=>[]
 | f+1,i,m=>bif Nat.beq m 0 then [] else bif Nat.beq (Nat.mod m 2) 1 then i :: dm f (i+1) (Nat.div m 2) else dm f (i+1) (Nat.div m 2)
def dms (l:List Nat):List (List Nat):=l.map (dm 200 0)
def sv (plan:List Item)(deps:List (List Nat))(s0:St)(i t:Nat):Option PV:=match Qvt plan deps i t with
 | true=>lk (pTm plan (Qrm deps i) 0 s0.tm) t
 | false=>none
def se (plan:List Item)(deps:List (List Nat))(s0:St)(i q:Nat):Option Ent:=match QxN plan deps i q with
 | true=>(pTb plan (Qrm deps i) 0 s0.tab).ent q
 | false=>none
section
variable {A:Amb}{P:Program}{s s' s0:St}{Q:Exit→St→Prop}{ops:Array Oper}{l:List Oper}{op:Op}{e t i:Nat}{ty T:TypeId}{pos:String}{af:Array Edge}{plan:List Item}{deps:List (List Nat)}
theorem At.k {pv:PV}(b:At plan deps s0 i s)(h:sv plan deps s0 i t=some pv):lk s.tm t=some pv:=by
 unfold sv at h
 split at h
 ·rename_i a; rw[b.tm t a]; exact h
 ·cases h
theorem At.n {x:Ent}(b:At plan deps s0 i s)(q:Nat)(h:se plan deps s0 i q=some x):s.tab.ent q=some x:=by
 unfold se at h
 split at h
 ·rename_i a; rw[b.en q a]; exact h
 ·cases h
theorem At.v {x:LV}(a:At plan deps s0 i s)(h:sv plan deps s0 i t=some (lf x)):Evl A s (.tmp t) x:=Qa (a.k h)
theorem At.w {b:Bool}{ls:List LV}(a:At plan deps s0 i s)(h:sv plan deps s0 i t=some (.cm b ls)):Ev A s (.tmp t) (b,ls):=Ql (a.k h)
theorem dxm {pv:PV}(h:sv plan deps s0 i t=some pv)(a:Nat.blt e A.n=true):∀s,At plan deps s0 i s→Acts A P ops ⟨some e, .move (.tmp t),ty,pos,af,none⟩ s (Qa4 s ⟨some e,pv,[]⟩):=fun _ b=>am (b.k h) a rfl
theorem dxt {pv:PV}(h:sv plan deps s0 i t=some pv)(a:Nat.blt e A.n=true):∀s,At plan deps s0 i s→Acts A P ops ⟨some e, .assign (.tmp t),ty,pos,af,none⟩ s (Qa4 s ⟨some e,pv,[]⟩):=fun _ b=>ac (UA (b.k h) a) rfl
theorem dxf {q off o f:Nat}{pv:PV}(c:fld P T f=some o)(h:sv plan deps s0 i t=some (lf (.ptr q off)))(a:((se plan deps s0 i q).isSome&&Nat.blt e A.n)=true)(j:lf (.ptr q (off+o))=pv):∀s,At plan deps s0 i s→Acts A P ops ⟨some e, .fieldAddr T (.tmp t) f,ty,pos,af,none⟩ s (Qa4 s ⟨some e,pv,[]⟩):=fun s b=>by
 subst j
 simp only[aM] at a
 obtain ⟨x,k⟩:=br.1 a.1
 exact ac (JC (b.v h) c (by rw[b.n _ k]; rfl) a.2) rfl
theorem dxn {q off:Nat}{pv:PV}(h:sv plan deps s0 i t=some (lf (.ptr q off)))(a:((se plan deps s0 i q).isSome&&Nat.blt e A.n)=true)(c:lf (.ptr q off)=pv):∀s,At plan deps s0 i s→Acts A P ops ⟨some e, .nilCheck (.tmp t),ty,pos,af,none⟩ s (Qa4 s ⟨some e,pv,[]⟩):=fun s b=>by
 subst c
 simp only[aM] at a
 obtain ⟨x,f⟩:=br.1 a.1
 exact ac (QbW (b.v h) (by rw[b.n _ f]; rfl) a.2) rfl
theorem dxl {q off n:Nat}{E:TypeId}{cs:List LV}{pv:PV}{x:LV}(b:tsh P T=some (false,n))(h:sv plan deps s0 i t=some (lf (.ptr q off)))(c:se plan deps s0 i q=some (.box E cs))(f:cs[off]? =some x)(j:Nat.blt e A.n=true)(k:lf x=pv):
 ∀s,At plan deps s0 i s→Acts A P ops ⟨some e, .load T (.tmp t),ty,pos,af,none⟩ s (Qa4 s ⟨some e,pv,[]⟩):=fun s a=>by
 subst k
 exact ac (Qak (a.v h) (a.n _ c) b f j) rfl
theorem dxa {q off n:Nat}{E:TypeId}{cs:List LV}{pv:PV}(c:tsh P T=some (true,n))(h:sv plan deps s0 i t=some (lf (.ptr q off)))(f:se plan deps s0 i q=some (.box E cs))(a:(Nat.ble (off+n) cs.length&&Nat.blt e A.n)=true)(j:ag ((cs.drop off).take n)=pv):
 ∀s,At plan deps s0 i s→Acts A P ops ⟨some e, .load T (.tmp t),ty,pos,af,none⟩ s (Qa4 s ⟨some e,pv,[]⟩):=fun s b=>by
 subst j
 simp only[aM] at a
 exact ac (JD (b.v h) (b.n _ f) c a.1 a.2) rfl
theorem dxo {j d:Nat}{b:Bool}(a:(ops[j]?).bind (·.dst)=some d)(hb:sv plan deps s0 i d=some (lf (dB (!b))))(c:Nat.blt e A.n=true):∀s,At plan deps s0 i s→Acts A P ops ⟨some e,op,ty,pos,af,some (j,b)⟩ s (Qa4 s ⟨some e,lf (.val undef),[]⟩):=fun _ f=>
 Acts.no rfl a (f.k hb) rfl c
theorem day {a:St}{j d:Nat}{b:Bool}(c:(ops[j]?).bind (·.dst)=some d)(hb:lk s.tm d=some (lf (dB b)))(h:Does A P ⟨some e,op,ty,pos,af,some (j,b)⟩ s s')(f:s'=a):Acts A P ops ⟨some e,op,ty,pos,af,some (j,b)⟩ s a:=QoI rfl c hb h f
theorem lgn {j d:Nat}{b:Bool}(a:(ops[j]?).bind (·.dst)=some d)(hb:lk s.tm d=some (lf (dB (!b))))(c:Nat.blt e A.n=true)(k:AL A P ops l Q (s.put e (lf (.val undef)))):AL A P ops (⟨some e,op,ty,pos,af,some (j,b)⟩ :: l) Q s:=QiR rfl a hb k c
theorem lgy {a:Option Nat}{j d:Nat}{b:Bool}(c:(ops[j]?).bind (·.dst)=some d)(hb:lk s.tm d=some (lf (dB b)))(h:Does A P ⟨a,op,ty,pos,af,some (j,b)⟩ s s')(k:AL A P ops l Q s'):AL A P ops (⟨a,op,ty,pos,af,some (j,b)⟩ :: l) Q s:=QhC rfl c hb h k
theorem dw {id:Nat}{y:Code}(plan:List Item)(ms:List Nat)(b:P.follows .mixedOrders=true)(c:l.length=plan.length)(a:(Qeu l.toArray (dms ms) plan.length&&QfH plan (dms ms)&&Qby l.toArray plan.length)=true)
 (H:ActsL A P l.toArray plan (dms ms) s0 l plan 0) (k:AC A P y Q (stD plan s0 fun _=>true)):AC A P (.seq (.region id l.toArray true) y) Q s0:=Yg (Qd3 plan (dms ms) b c a H k)
theorem dv {id:Nat}(plan:List Item)(ms:List Nat)(b:P.follows .mixedOrders=true)(c:l.length=plan.length)(a:(Qeu l.toArray (dms ms) plan.length&&QfH plan (dms ms)&&Qby l.toArray plan.length)=true)
 (H:ActsL A P l.toArray plan (dms ms) s0 l plan 0) (k:Q .normal (stD plan s0 fun _=>true)):AC A P (.region id l.toArray true) Q s0:=Qd3 plan (dms ms) b c a H k
theorem dz {id:Nat}{y:Code}{a:Exit→St→Prop}(plan:List Item)(ms:List Nat)(c:P.follows .mixedOrders=true)(f:l.length=plan.length)(b:(Qeu l.toArray (dms ms) plan.length&&QfH plan (dms ms)&&Qby l.toArray plan.length)=true)
 (H:ActsL A P l.toArray plan (dms ms) s0 l plan 0) (k:AC A P y a (stD plan s0 fun _=>true)):AC A P (.region id l.toArray true) (Qai (AC A P y a) Q) s0:=Qd3 plan (dms ms) c f b H k
end
end Go.Proofs.YtndabgcpnmeeoaaGreat
namespace Go.Proofs.YtndabgcpnmeeoaaGreat
open Go.RowKit
section
variable {A:Amb}{P:Program}{s:St}{x y:Operand}{d:Nat}{T T' ty:TypeId}{pos:String}{af:Array Edge}{g:Option (Nat×Bool)}
variable {T' E:TypeId}
theorem QfO (w:World)(T T' E:TypeId)(c:Nat)(e:P.underlying T=some (.slice E))(b:P.underlying E=some (.int .u8))(a:P.underlying T'=some .string):
 (convert T T' (.slice none 0 c)).run P w= .ok (.string ByteArray.empty) w:=by
 rw[run_convert_bytes_string w T T' E none 0 c e b a]
 simp[Conv.bytesToString,bl]
theorem QhQ {ys:List UInt8}{a:Act}{w:World}(e:Rep (.sl E .u8) w [a.eval x] ys)(k:P.underlying T=some (.slice E))(h:P.underlying E=some (.int .u8))(f:P.underlying T'=some .string):
 (convert T T' (a.eval x)).run P w= .ok (.string ⟨ys.toArray⟩) w:=by
 obtain ⟨B,c,u,D,F⟩:=e.slv
 rw[u] at e ⊢
 cases ys with
 | nil=>
  cases B with
  | none=>exact QfO w T T' E c k h f
  | some b=>exact run_convert_bytes_back w T T' E b c [] k h f (by simp)
 | cons z v=>
  obtain ⟨b,o,l,rfl,_,_⟩:=e.at_ (i:=0) (x:=z) rfl
  refine run_convert_bytes_back w T T' E ⟨b,o,none⟩ c (z :: v) k h f fun j t=> ?_
  obtain ⟨C,G,l,m,n,p⟩:=e.at_ (ap t)
  simp only[bC,Addr.mk.injEq] at m
  obtain ⟨rfl,rfl,_⟩:=m
  have q:l=_:=n
  have:=p 0 _ (by rw[q]; rfl)
  have r:(⟨b,o,none⟩:Addr).add j=⟨b,o+j*Ty.u8.wd+0,none⟩:=by rw[Addr.add_lit]; simp[Ty.wd]
  rw[r]; exact this
theorem XA {ys:List UInt8}(k:Qej A s x (.sl E .u8) ys)(j:P.underlying T=some (.slice E))(f:P.underlying E=some (.int .u8))(e:P.underlying T'=some .string)(i:Nat.blt d A.n=true):
 Does A P ⟨some d, .convert T T' x,ty,pos,af,g⟩ s (s.put d (lf (dS ⟨ys.toArray⟩))):=
 Qi rfl i fun b a w r=>by
  have h:=k b a w r
  obtain ⟨B,c,o,l,m⟩:=h.slv
  refine ⟨_, ?_,_,rfl,QhF (x:=⟨ys.toArray⟩) ?_⟩
  ·simp only[execOp,ay]
   rw[QhQ h j f e]
   rfl
  ·show ys.toArray.size≤maxLen
   simp; omega
theorem Rg.drewR {gh:Gh}{a:Act}{w:World}(r:Rg A s gh a w):Rg A s gh a w.drew:=
 r.step (T:=s.tab) ⟨fun q e h=>(r.cx.en q e h).mono (fun _ _ h=>⟨h,rfl⟩) (fun g b=>⟨b,rfl⟩) rfl rfl (fun _ _=>rfl),r.cx.dj,r.cx.nd,r.cx.no,r.cx.nl⟩ (fun q h=> .inl ⟨h,rfl,fun _=>rfl⟩) (fun g h=>⟨h,rfl⟩) ⟨rfl,rfl,rfl,aL _⟩
  (fun _ _ _=>rfl) (fun g h=> .inl h) (fun q h g b=> .inr ⟨q,h,b⟩)
theorem Qa0 (t:Nat){b:ByteArray}(B:Evl A s x (dS b))(v:P.underlying T=some .string)(p:P.underlying T'=some (.slice E))(q:P.underlying E=some (.int .u8))(u:Nat.blt d A.n=true)(i:Fresh s t)(j:A.k0≤t):
 Does A P ⟨some d, .convert T T' x,ty,pos,af,g⟩ s (s.new d t (.ref t) (.bys E b.toList)):=fun a w K Q r m=>by
 obtain ⟨l,r⟩:=r
 have z:Rep .str w [a.eval x] b:=Rd.rep (B l a w r)
 obtain ⟨f,k⟩:=z
 simp only[aD,and_true] at f
 have c:b.toList.length=b.size:=by simp[bB]
 have e:(execOp a.eval ⟨some d, .convert T T' x,ty,pos,af,g⟩).run P w= .ok (.value (.slice (some ⟨w.heap.size,0,none⟩) b.size (grownCap w b.size 0 E))) (w.drew.alloc (.cells (bytesRow b (grownCap w b.size 0 E)) E ((bytesRow b (grownCap w b.size 0 E)).size,(bytesRow b (grownCap w b.size 0 E)).size+1))):=by
  simp only[execOp,f,ay,run_bytes_of_string w T T' E b v p q]
  simp
 unfold Oper.wp
 rw[e,Oper.upon_value]
 have o:=grownCap_ge w b.size 0 E
 have h:=grownCap_le_maxLen w b.size 0 E k
 refine m _ _ ⟨_,(r.drewR.grow t i j _ (.slice (some ⟨w.heap.size,0,none⟩) b.size (grownCap w b.size 0 E)) [w.heap.size] (.bys E b.toList) (by simp) (by simp) (by simp[Ent.tags]) ?_).put (aA u) (pv:=lf (.ref t)) ⟨_,rfl,fun _=>by simp⟩⟩
 refine ⟨w.heap.size,grownCap w b.size 0 E,bytesRow b (grownCap w b.size 0 E),by simp[c],by simp,⟨_,heap_alloc_new w.drew _, .inr rfl⟩,by omega,h, ?_, ?_⟩
 ·simp only[bytesRow,Array.size_append,Array.size_map,Array.size_replicate]
  show b.size+_=_
  omega
 ·simp only[bytesRow,Array.toList_append,dy]
  rw[List.take_append_of_le_length (by simp[c]),aJ (by simp[c]),bB]
theorem QdA {gh:Gh}{a:Act}{w:World}(r:Rg A s gh a w){q:Nat}{l:List UInt8}(e:s.tab.ent q=some (.bys E l)):∃g c cur,gh.h q= .slice (some ⟨g,0,none⟩) l.length c∧gh.f q=[g]∧Row w g cur E∧l.length≤c∧c≤maxLen∧cur.size=c∧cur.toList.take l.length=l.map fun b=>Value.int .u8 b.toNat:=
 r.cx.en q _ e
theorem Qjm {cur:Array Value}{l:List UInt8}(h:cur.toList.take l.length=l.map fun b=>Value.int .u8 b.toNat){i:Nat}{z:UInt8}(c:l[i]? =some z):cur[i]? =some (.int .u8 z.toNat):=by
 have a:(cur.toList.take l.length)[i]? =some (.int .u8 z.toNat):=by rw[h,bo,c]; rfl
 rw[bw] at a
 split at a
 ·simpa using a
 ·cases a
theorem X5 {q:Nat}{l:List UInt8}{E':TypeId}{i:Int}{k:Bool}(z:Evl A s x (.ref q))(j:s.tab.ent q=some (.bys E l))(B:Evl A s y (dI i))(p:P.underlying T=some (.slice E'))(o:tsh P E'=some (k,1))(u:Nat.blt d A.n=true)
 (h0:0≤i) (h1:i < l.length):Does A P ⟨some d, .indexAddr T x y,ty,pos,af,g⟩ s (s.put d (lf (.ept q 1 i.toNat 0))):=
 Qi rfl u fun e a w r=>by
  have t:=B.i r
  have v:a.eval x=e.h q:=z e a w r ⟨_,j⟩
  obtain ⟨b,c,m,f,C,D,F,G,H,I⟩:=QdA r j
  refine ⟨.pointer (some ⟨b,0+i.toNat*1,none⟩), ?_,_,rfl,fun _=>⟨b,l.length,c,f,by simp⟩⟩
  simp only[execOp,v,f,t,ay,Vp p o h0 h1]
  simp
theorem Qd9 {q i n:Nat}{l:List UInt8}{z:UInt8}(C:Evl A s x (.ept q 1 i 0))(h:s.tab.ent q=some (.bys E l))(D:l[i]? =some z)(u:tsh P T=some (false,n))(B:Nat.blt d A.n=true):
 Does A P ⟨some d, .load T x,ty,pos,af,g⟩ s (s.put d (lf (.dat .u8 z))):=
 Qi rfl B fun f a w r=>by
  obtain ⟨g,m,c,o,p⟩:=C f a w r ⟨_,h⟩
  obtain ⟨b,j,k,e,H,F,I,J,K,G⟩:=QdA r h
  rw[o] at e
  simp only[Value.slice.injEq,bC,Addr.mk.injEq,and_true] at e
  obtain ⟨rfl,rfl,rfl⟩:=e
  refine ⟨.int .u8 z.toNat, ?_,_,rfl,Own.rd (w:=w) (N:=f.N) (t:= .u8) (fp:=[]) ⟨rfl,rfl⟩ (by simp)⟩
  have v:w.cell? ⟨g,i*1+0,none⟩=some (.int .u8 z.toNat):=by rw[F.cell,cr,ea]; exact Qjm G D
  simp only[execOp,p,Instr.loadAt,Instr.sureAddr,ay,bl,aI,Z3 u _ _ v]
theorem Qix {w:World}{b o:Nat}{v u:Value}(c:tsh P T=some (false,1))(hv:v.cells= #[v])(a:v.oneCell'=true)(e:w.cell? ⟨b,o,none⟩=some u)(f:w.frozen? ⟨b,o,none⟩=false):
 (storeVar T ⟨b,o,none⟩ v).run P w= .ok () (w.setCell ⟨b,o,none⟩ v):=by
 simp only[storeVar,ay,Xr c,aI,hv]
 simp[storeCells,ay,Addr.add_lit,run_store P w _ v .plain a,stored,e,f,aI]
theorem UD {q i:Nat}{l:List UInt8}{z:UInt8}(Z:Evl A s x (.ept q 1 i 0))(C:s.tab.ent q=some (.bys E l))(hi:i < l.length)(hy:Evl A s y (.dat .u8 z))(V:tsh P T=some (false,1)):
 Does A P ⟨none, .store T x y,ty,pos,af,g⟩ s ⟨s.tm,(q,some (.bys E (l.set i z))) :: s.tab⟩:=fun a w K Q r U=>by
 obtain ⟨B,r⟩:=r
 obtain ⟨g,m,c,H,R⟩:=Z B a w r ⟨_,C⟩
 obtain ⟨b,L,e,F,I,G,k4,k5,k6,k7⟩:=QdA r C
 rw[H] at F
 simp only[Value.slice.injEq,bC,Addr.mk.injEq,and_true] at F
 obtain ⟨rfl,rfl,rfl⟩:=F
 have t:Rep .u8 w [a.eval y] z:=Rd.rep (hy B a w r)
 have t:[a.eval y]=[.int .u8 z.toNat]:=t
 simp only[aD,and_true] at t
 have n:i < e.size:=by omega
 have W:w.cell? ⟨g,i,none⟩=some e[i]:=by rw[G.cell]; simp[n]
 have Y:=G.soft n
 have M:(execOp a.eval ⟨none, .store T x y,ty,pos,af,‹_›⟩).run P w= .ok .skip (w.setCell ⟨g,i,none⟩ (.int .u8 z.toNat)):=by
  have S:=Qix (P:=P) (w:=w) (b:=g) (o:=i) (v:= .int .u8 z.toNat) V rfl rfl W Y
  simp only[execOp,R,t,Instr.storeAt,Instr.sureAddr,ay,bl,aI,cr,ea,S]
 unfold Oper.wp
 rw[M,Oper.upon_skip]
 obtain ⟨f,p1,p2⟩:=G
 obtain ⟨k,m1,J,m3⟩:=Uo g E f [.int .u8 z.toNat] w i e p1 (by simp; omega)
 refine U _ _ ⟨B,r.mod C (Ky w g i [.int .u8 z.toNat]) (fun O _ D=>YW w g i [.int .u8 z.toNat] O fun h=>D (by rw[I,h]; simp)) ⟨g,c,k,by simpa using H,I,⟨f,m1,by rw[J]; exact p2⟩,by simpa using k4,k5,J.trans k6, ?_⟩⟩
 rw[m3,au]
 have N:l.map (fun b=>Value.int .u8 b.toNat)=e.toList.take l.length:=k7.symm
 rw[List.map_set,N]
 apply bF
 intro j
 have X:e.toList.length=e.size:=by simp
 rw[aV,bw,ao]
 by_cases p:j < l.length
 ·rw[if_pos p]
  by_cases u:i=j
  ·subst u
   rw[if_pos rfl,if_pos (by omega),aK,bk (by simp[ao]; omega)]
   simp[ao,cu (show i≤e.size by omega)]
  ·rw[if_neg u,bw,if_pos p]
   rcases Nat.lt_or_gt_of_ne u with h | h
   ·rw[aK,bk (by rw[ao]; omega),ao,bk (by simp; omega),cw]
    congr 1
    simp
    omega
   ·rw[aK,bf (by rw[ao]; omega),bw,if_pos h]
 ·rw[if_neg p,if_neg (by omega),bw,if_neg p]
theorem Qi9 {q:Nat}{l:List UInt8}(h:Evl A s x (.ref q))(e:s.tab.ent q=some (.bys E l)):Qej A s x (.sl E .u8) l:=fun c a w r=>by
 rw[show a.eval x=c.h q from h c a w r ⟨_,e⟩]
 obtain ⟨g,b,k,n,B,o,p,t,C,v⟩:=QdA r e
 rw[n]
 refine ⟨_,b,rfl,p,t,fun _=>⟨g,0,rfl,fun i z m=>⟨[.int .u8 z.toNat],rfl,fun j u f=> ?_⟩⟩⟩
 cases j with
 | zero=>
  obtain rfl:Value.int .u8 z.toNat=u:=by simpa using f
  rw[o.cell]
  simpa [Ty.wd] using Qjm v m
 | succ j=>simp at f
end
end Go.Proofs.YtndabgcpnmeeoaaGreat
