import Derived.Test.YtjfpbcmfbnnooaaGreatPAf
set_option linter.all false
namespace Go.Proofs.YtjfpbcmfbnnooaaGreat
open Go.RowKit Tryz
section
variable {al:Nat→Prop}{gh:Gh}{w:World}
def LOs.app {c f:List LV}{f1 b:List Nat}{c1 c2:List Value}(h:LOs al gh w c f1 c1)(k:LOs al gh w f b c2):LOs al gh w (c++f) (f1++b) (c1++c2):=by
 induction c generalizing f1 c1 with
 | nil=>obtain ⟨rfl,rfl⟩:=h;exact k
 | cons l q p=>obtain ⟨j,m,v,a,rfl,rfl,n,o⟩:=h;exact ⟨j,m++b,v,a++c2,by rw[aM],rfl,n,p o⟩
def Ki {a n:List LV}{f:List Nat}{c:List Value}(h:LOs al gh w (a++n) f c):∃f1 j c1 c2,f=f1++j∧c=c1++c2∧LOs al gh w a f1 c1∧LOs al gh w n j c2:=by
 induction a generalizing f c with
 | nil=>exact ⟨[],f,[],c,rfl,rfl,⟨rfl,rfl⟩,h⟩
 | cons l E C=>
  obtain ⟨k,D,v,o,rfl,rfl,r,u⟩:=h
  obtain ⟨m,q,b,p,rfl,rfl,z,B⟩:=C u
  exact ⟨k++m,q,v::b,p,by rw[aM],rfl,⟨k,m,v,b,rfl,rfl,r,z⟩,B⟩
def LOs.len {ls:List LV}{f:List Nat}{cs:List Value}(h:LOs al gh w ls f cs):cs.length=ls.length:=by
 induction ls generalizing f cs with
 | nil=>rw[h.2];rfl
 | cons l ls c=>obtain ⟨j,k,v,a,rfl,rfl,m,b⟩:=h;simp[c b]
theorem LOs.parts {ls:List LV}{f:List Nat}{cs:List Value}(h:LOs al gh w ls f cs){p:Nat}{l:LV}(q:ls[p]? =some l):
 ∃c f1 j a v b,f=c++(f1++j)∧cs=a++v::b∧a.length=p∧LOs al gh w (ls.take p) c a∧LO al gh w l f1 v∧LOs al gh w (ls.drop (p+1)) j b:=by
 obtain ⟨u,r⟩:=ae.1 q
 have e:ls=ls.take p++l::ls.drop (p+1):=by
  grind [List.take_append_drop,List.drop_eq_getElem_cons]
 rw[e] at h
 obtain ⟨c,z,a,c2,rfl,rfl,k,m⟩:=Ki h
 obtain ⟨f1,j,v,b,rfl,rfl,n,o⟩:=m
 refine ⟨c,f1,j,a,v,b,rfl,rfl,?_,k,n,o⟩
 rw[k.len,au];omega
def LOs.put {ls:List LV}{p:Nat}{l:LV}{f f1 b:List Nat}{c a:List Value}{v:Value}(m:p<ls.length)(h:LOs al gh w (ls.take p) f c)(j:LO al gh w l f1 v)(k:LOs al gh w (ls.drop (p+1)) b a):
 LOs al gh w (ls.set p l) (f++(f1++b)) (c++v::a):=by
 rw[List.set_eq_take_append_cons_drop,if_pos m]
 exact h.app ⟨f1,b,v,a,rfl,rfl,j,k⟩
def Own.los:∀{t:Ty} {f:List Nat} {cs:List Value} {x:t.Den},Own t w f cs x→LOs al gh w (leaves t x) f cs
 | .int,f,cs,x,h=>by have j:=h.1;have c:=h.2.1;subst j;subst c;exact ⟨[],[],_,[],rfl,rfl,h,rfl,rfl⟩
 | .bool,f,cs,x,h=>by have j:=h.1;have c:=h.2;subst j;subst c;exact ⟨[],[],_,[],rfl,rfl,h,rfl,rfl⟩
 | .str,f,cs,x,h=>by have j:=h.1;have c:=h.2.1;subst j;subst c;exact ⟨[],[],_,[],rfl,rfl,h,rfl,rfl⟩
 | .u8,f,cs,x,h=>by have j:=h.1;have c:=h.2;subst j;subst c;exact ⟨[],[],_,[],rfl,rfl,h,rfl,rfl⟩
 | .vl,f,cs,x,h=>by have j:=h.1;have c:=h.2;subst j;subst c;exact ⟨[],[],_,[],rfl,rfl,h,rfl,rfl⟩
 | .sl E e,f,cs,x,h=>by
  have k:=h.len
  match cs,k with
  | [v],_=>exact ⟨f,[],v,[],by simp,rfl,h,rfl,rfl⟩
 | .pr a b,_,_,_,⟨f1,f2,l,r,rfl,rfl,c,h3⟩=>LOs.app (Own.los c) (Own.los h3)
def LOs.own:∀{t:Ty} {f:List Nat} {cs:List Value} {x:t.Den},LOs al gh w (leaves t x) f cs→Own t w f cs x
 | .int,f,cs,x,⟨k,m,v,cs',c,j,h3,h4,h5⟩=>by subst c;subst j;subst h4;subst h5;rw[bH];exact h3
 | .bool,f,cs,x,⟨k,m,v,cs',c,j,h3,h4,h5⟩=>by subst c;subst j;subst h4;subst h5;rw[bH];exact h3
 | .str,f,cs,x,⟨k,m,v,cs',c,j,h3,h4,h5⟩=>by subst c;subst j;subst h4;subst h5;rw[bH];exact h3
 | .u8,f,cs,x,⟨k,m,v,cs',c,j,h3,h4,h5⟩=>by subst c;subst j;subst h4;subst h5;rw[bH];exact h3
 | .vl,f,cs,x,⟨k,m,v,cs',c,j,h3,h4,h5⟩=>by subst c;subst j;subst h4;subst h5;rw[bH];exact h3
 | .sl E e,f,cs,x,⟨k,m,v,cs',c,j,h3,h4,h5⟩=>by subst c;subst j;subst h4;subst h5;rw[bH];exact h3
 | .pr a b,f,cs,x,h=>by
  obtain ⟨k,m,c1,c2,rfl,rfl,c,j⟩:=Ki h
  exact ⟨k,m,c1,c2,rfl,rfl,LOs.own c,LOs.own j⟩
def Zh (e:Ty)(xs:List e.Den):List LV:=xs.flatMap (leaves e)
def OwnL.los {e:Ty}:∀{xs:List e.Den} {f:List Nat} {cs:List Value},OwnL (Own e w) f cs xs→LOs al gh w (Zh e xs) f cs
 | [],_,_,h=>h
 | x::xs,_,_,⟨f1,f2,c1,c2,rfl,rfl,h3,h4⟩=>by
  show LOs al gh w (leaves e x++Zh e xs) _ _
  exact (Own.los h3).app (OwnL.los h4)
def LOs.ownL {e:Ty}:∀{xs:List e.Den} {f:List Nat} {cs:List Value},LOs al gh w (Zh e xs) f cs→OwnL (Own e w) f cs xs
 | [],_,_,h=>h
 | x::xs,_,_,h=>by
  have h:LOs al gh w (leaves e x++Zh e xs) _ _:=h
  obtain ⟨a,b,c1,c2,rfl,rfl,c,j⟩:=Ki h
  exact ⟨a,b,c1,c2,rfl,rfl,LOs.own c,LOs.ownL j⟩
theorem Wn (e:Ty)(xs:List e.Den):(Zh e xs).length=xs.length*e.wd:=by
 induction xs with
 | nil=>simp[Zh]
 | cons x xs a=>
  simp_all [leaves,Zh,ai,Wp,av,cw,dq,Nat.add_comm]
theorem K3 {e:Ty}{xs:List e.Den}{i j:Nat}{x:e.Den}{l:LV}(b:xs[i]? =some x)(a:(leaves e x)[j]? =some l):(Zh e xs)[i*e.wd+j]? =some l:=by
 induction xs generalizing i with
 | nil=>simp at b
 | cons y c h=>
  show (leaves e y++Zh e c)[_]? =_
  have f:j<e.wd:=by rw[← Wp e x];exact (ae.1 a).1
  cases i with
  | zero=>
   grind
  | succ i=>
   grind [List.getElem?_append_right,Wp,Nat.add_mul]
theorem K4 {e:Ty}{xs:List e.Den}{i j:Nat}{x x':e.Den}{l:LV}(a:xs[i]? =some x)(c:leaves e x'=(leaves e x).set j l)(b:j<e.wd):Zh e (xs.set i x')=(Zh e xs).set (i*e.wd+j) l:=by
 induction xs generalizing i with
 | nil=>simp at a
 | cons y h f=>
  cases i with
  | zero=>
   simp_all [leaves,Zh,Nat.zero_mul,bJ,List.set_append_left,Wp]
  | succ i=>
   grind [leaves,Zh,List.set_append_right,Wp,Nat.add_mul]
end
def QdP (e:Ty):∀(xs:List e.Den),QQ (Zh e xs)=[]
 | []=>rfl
 | x::xs=>by rw[show Zh e (x::xs)=leaves e x++Zh e xs from rfl,Vv,HO,QdP e xs];rfl
section
variable {A:Amb}{P:Program}{s:St}{x y:Operand}{d:Nat}{T T' ty:TypeId}{pos:String}{af:Array Edge}{g:Option (Nat×Bool)}
def Qab {q:Nat}{E:TypeId}{e:Ty}{xs:List e.Den}(m:s.tab.ent q=some (.arr E e xs))(C:0<xs.length):Wk A s ⟨s.tm,(q,some (.obx E e.wd xs.length (Zh e xs) []))::s.tab⟩:=fun a w r=>by
 obtain ⟨gh,r⟩:=r
 have B:Own (.sl E e) w (gh.f q) [gh.h q] xs:=r.cx.en q _ m
 rcases B with ⟨_,_,h⟩|⟨b,c,j,fps,n,k,o,p,u,v,z⟩
 ·subst h;simp at C
 ·simp only[aN,and_true] at k
  exact ⟨gh,r.mod m (ZN w) (fun _ _ _=>rfl) ⟨QdP e xs,b,c,j,fps,k,n,o,p,u,v,Wn e xs,z.los⟩⟩
def Vo {q n:Nat}{E:TypeId}{e:Ty}{ls:List LV}{h:List (Nat×LV)}(xs:List e.Den)(f:s.tab.ent q=some (.obx E e.wd n ls h))(C:n=xs.length)(B:ovr ls h=Zh e xs):Wk A s ⟨s.tm,(q,some (.arr E e xs))::s.tab⟩:=fun a w r=>by
 subst C
 obtain ⟨gh,r⟩:=r
 obtain ⟨j,g,b,c,fps,k,m,o,p,u,v,D,z⟩:=r.cx.en q _ f
 refine ⟨gh,r.mod f (ZN w) (fun _ _ _=>rfl) ?_⟩
 refine .inr ⟨g,b,c,fps,m,by rw[k],o,p,u,v,(B▸z).ownL⟩
theorem V1 (t:Nat){q wd n p:Nat}{E E':TypeId}{e':Ty}{ys:List e'.Den}{ls:List LV}{U:List (Nat×LV)}(he:s.tab.ent q=some (.obx E wd n ls U))(hl:(ovr ls U)[p]? =some (.dat (.sl E' e') ys))(R:Fresh s t)(a7:A.k0≤t):
 Wk A s ⟨s.tm,(t,some (.arr E' e' ys))::(q,some (.obx E wd n ls ((p,.ref t)::U)))::s.tab⟩:=fun a w r=>by
 obtain ⟨gh,r⟩:=r
 have Z:s.tab.al q:=⟨_,he⟩
 have b0:q≠t:=fun h=>R.al (h▸Z)
 obtain ⟨a0,g,a4,a5,fps,h1,h2,h3,h4,h5,h6,h7,h8⟩:=r.cx.en q _ he
 obtain ⟨fa,f1,fb,ca,v,cb,k1,k2,k3,k4,k5,k6⟩:=h8.parts hl
 have hO:Own (.sl E' e') w f1 [v] ys:=k5
 have a9:p<(ovr ls U).length:=(ae.1 hl).1
 have a1:=r.cx.nd q Z
 rw[h2,k1] at a1
 have W:=(bP.1 a1)
 have L:=bz.1 W.2
 have X:=bz.1 L.2.1
 let j:Gh:=⟨fun r=>if r=t then v else gh.h r,fun r=>if r=t then f1 else if r=q then g::(fa++fb) else gh.f r,gh.N⟩
 have B:∀r,Tab.al ((t,some (.arr E' e' ys))::(q,some (.obx E wd n ls ((p,.ref t)::U)))::s.tab) r→r=t∨(r≠t∧s.tab.al r):=fun m h=>by
  by_cases I:m=t
  ·exact .inl I
  ·refine .inr ⟨I,?_⟩
   obtain ⟨e2,h⟩:=h
   rw[Qi,if_neg I,Qi] at h
   by_cases C:m=q
   ·rw[C];exact Z
   ·rw[if_neg C] at h;exact ⟨_,h⟩
 have z:∀x∈f1,x∈gh.f q:=fun x o=>by rw[h2,k1];simp[o]
 have b1:∀x∈g::(fa++fb),x∈gh.f q:=fun x o=>by
  grind
 have V:∀x∈f1,x∉g::(fa++fb):=fun x o S=>by
  grind
 have H:∀m,m≠t→∀x∈j.f m,x∈gh.f m:=fun m I x o=>by
  grind
 have K:j.f t=f1:=by simp[j]
 have O:j.f q=g::(fa++fb):=by simp[j,b0]
 have D:=r.step (T:=(t,some (.arr E' e' ys))::(q,some (.obx E wd n ls ((p,.ref t)::U)))::s.tab) (gh':=j) (w':=w) ?_ ?_ (fun g hg=>⟨hg,rfl⟩) (ZN w) (fun _ _ _=>rfl) (fun g hg=> .inl hg) ?_
 ·exact ⟨j,D⟩
 ·refine ⟨fun m e2 h=> ?_,fun a b G M a2 x o F=> ?_,fun m h=> ?_,fun m h x o=> ?_,r.cx.nl⟩
  ·rw[Qi] at h
   by_cases I:m=t
   ·rw[if_pos I] at h
    cases h
    subst I
    show Own (.sl E' e') w (j.f m) [j.h m] ys
    simpa [j] using hO
   ·rw[if_neg I,Qi] at h
    by_cases C:m=q
    ·rw[if_pos C] at h
     cases h
     subst C
     refine ⟨a0,g,a4,a5,fa++fb,by simp[j,I,h1],O,h3,h4,h5,h6,by simpa [ovr] using h7,?_⟩
     rw[k2]
     have S:∀(l:List LV) (f:List Nat) (c:List Value),(∀m∈QQ l,m≠t)→LOs s.tab.al gh w l f c→LOs (Tab.al ((t,some (.arr E' e' ys))::(m,some (.obx E wd n ls ((p,.ref t)::U)))::s.tab)) j w l f c:=fun l f c a8 h=>h.mono (fun D u G=>by
      rcases B D G with h9|⟨h9,J⟩
      ·exact absurd h9 (a8 D u)
      ·exact ⟨J,by simp[j,h9]⟩) fun _ _=>rfl
     have Y:∀D∈QQ (ovr ls U),D≠t:=fun D u h=>R.en m _ he (by show t∈QbH U;rw[← h];exact QgF a0 D u)
     have a3:=LOs.put (p:=p) (l:= .ref t) (f1:=[]) (v:=v) a9 (S _ _ _ (fun D u=>Y D (Qji p D u)) k4) ⟨rfl,Rep.one hO.rep v (by simp),fun _=>by simp[j]⟩ (S _ _ _ (fun D u=>Y D (Qjh _ D u)) k6)
     simpa [ovr] using a3
    ·rw[if_neg C] at h
     have h9:=r.cx.en m e2 h
     refine h9.mono (fun D u G=> ?_) (fun g hg=>⟨hg,rfl⟩) (by simp[j,I]) (by simp[j,I,C]) fun _ _=>rfl
     rcases B D G with J|⟨J,a6⟩
     ·exact absurd (J▸u) (R.en m e2 h)
     ·exact ⟨a6,by simp[j,J]⟩
  ·rcases B a G with G|⟨G,ka⟩ <;> rcases B b M with M|⟨M,kb⟩
   ·exact a2 (G.trans M.symm)
   ·subst G
    rw[K] at o
    by_cases C:b=q
    ·subst C;rw[O] at F;exact V x o F
    ·exact r.cx.dj q b Z kb (fun h=>C h.symm) x (z x o) (H b M x F)
   ·subst M
    rw[K] at F
    by_cases C:a=q
    ·subst C;rw[O] at o;exact V x F o
    ·exact r.cx.dj q a Z ka (fun h=>C h.symm) x (z x F) (H a G x o)
   ·exact r.cx.dj a b ka kb a2 x (H a G x o) (H b M x F)
  ·rcases B m h with h|⟨h,k⟩
   ·subst h;rw[K];exact X.1
   ·by_cases C:m=q
    ·subst C
     rw[O]
     refine bP.2 ⟨fun S=>W.1 (by
      rcases aO.1 S with S|S
      ·exact aU _ S
      ·exact bd _ (bd _ S)),bz.2 ⟨L.1,X.2.1,fun a G b M=>L.2.2 a G b (bd _ M)⟩⟩
    ·have:j.f m=gh.f m:=by simp[j,h,C]
     rw[this];exact r.cx.nd m k
  ·rcases B m h with h|⟨h,k⟩
   ·subst h;rw[K] at o;exact r.cx.no q Z x (z x o)
   ·exact r.cx.no m k x (H m h x o)
 ·intro m h
  rcases B m h with h|⟨h,k⟩
  ·exact .inr ⟨h▸R,h▸a7⟩
  ·exact .inl ⟨k,by simp[j,h],fun _=>rfl⟩
 ·intro m h x o
  rcases B m h with h|⟨h,k⟩
  ·subst h;rw[K] at o;exact .inr ⟨q,Z,z x o⟩
  ·exact .inr ⟨m,k,H m h x o⟩
theorem Vp {q t Z n p:Nat}{E E':TypeId}{e':Ty}{ys:List e'.Den}{ls:List LV}{O:List (Nat×LV)}(he:s.tab.ent q=some (.obx E Z n ls O))(hl:(ovr ls O)[p]? =some (.ref t))(ht:s.tab.ent t=some (.arr E' e' ys)):
 Wk A s ⟨s.tm,(q,some (.obx E Z n ls ((p,.dat (.sl E' e') ys)::O)))::(t,none)::s.tab⟩:=fun a w r=>by
 obtain ⟨gh,r⟩:=r
 have hq:s.tab.al q:=⟨_,he⟩
 have u:s.tab.al t:=⟨_,ht⟩
 have a6:q≠t:=fun h=>by rw[h,ht] at he;cases he
 obtain ⟨a2,g,a0,a1,fps,h1,h2,h3,h4,h5,h6,h7,h8⟩:=r.cx.en q _ he
 obtain ⟨fa,f1,fb,ca,v,cb,k1,k2,k3,k4,k5,k6⟩:=h8.parts hl
 obtain ⟨rfl,a8,hv⟩:=k5
 have hv:=hv u
 have hO:Own (.sl E' e') w (gh.f t) [gh.h t] ys:=r.cx.en t _ ht
 have a5:p<(ovr ls O).length:=(ae.1 hl).1
 rw[dX] at k1
 have I:=r.cx.nd q hq
 rw[h2,k1] at I
 let k:Gh:=⟨gh.h,fun r=>if r=q then g::(fa++(gh.f t++fb)) else gh.f r,gh.N⟩
 have m:∀r,Tab.al ((q,some (.obx E Z n ls ((p,.dat (.sl E' e') ys)::O)))::(t,none)::s.tab) r→r≠t∧s.tab.al r:=fun j h=>by
  obtain ⟨e2,h⟩:=h
  rw[Qi] at h
  by_cases D:j=q
  ·rw[D];exact ⟨a6,hq⟩
  ·rw[if_neg D,Qi] at h
   by_cases R:j=t
   ·rw[if_pos R] at h;cases h
   ·rw[if_neg R] at h;exact ⟨R,_,h⟩
 have V:k.f q=g::(fa++(gh.f t++fb)):=by simp[k]
 have z:∀j,∀x∈k.f j,x∈gh.f j∨(j=q∧x∈gh.f t):=fun j x J=>by
  grind
 have Y:=r.step (T:=(q,some (.obx E Z n ls ((p,.dat (.sl E' e') ys)::O)))::(t,none)::s.tab) (gh':=k) (w':=w) ?_ ?_ (fun g W=>⟨W,rfl⟩) (ZN w) (fun _ _ _=>rfl) (fun g W=> .inl W) ?_
 ·exact ⟨k,Y⟩
 ·refine ⟨fun j e2 h=> ?_,fun a b F G X x J M=> ?_,fun j h=> ?_,fun j h x J=> ?_,r.cx.nl⟩
  ·rw[Qi] at h
   by_cases D:j=q
   ·rw[if_pos D] at h
    cases h
    subst D
    refine ⟨a2,g,a0,a1,fa++(gh.f t++fb),h1,V,h3,h4,h5,h6,by simpa [ovr] using h7,?_⟩
    rw[k2]
    have C:∀(l:List LV) (f:List Nat) (c:List Value),LOs s.tab.al gh w l f c→LOs (Tab.al ((j,some (.obx E Z n ls ((p,.dat (.sl E' e') ys)::O)))::(t,none)::s.tab)) k w l f c:=fun l f c h=>h.mono (fun Y a7 F=>⟨(m Y F).2,rfl⟩) fun _ _=>rfl
    rw[← hv] at hO
    exact LOs.put a5 (C _ _ _ k4) hO (C _ _ _ k6)
   ·rw[if_neg D,Qi] at h
    by_cases R:j=t
    ·rw[if_pos R] at h;cases h
    ·rw[if_neg R] at h
     exact (r.cx.en j e2 h).mono (fun Y a7 F=>⟨(m Y F).2,rfl⟩) (fun g W=>⟨W,rfl⟩) rfl (by simp[k,D]) fun _ _=>rfl
  ·obtain ⟨a3,S⟩:=m a F
   obtain ⟨a4,U⟩:=m b G
   rcases z a x J with h|⟨rfl,h⟩ <;> rcases z b x M with B|⟨rfl,B⟩
   ·exact r.cx.dj a b S U X x h B
   ·exact r.cx.dj a t S u a3 x h B
   ·exact r.cx.dj b t U u a4 x B h
   ·exact X rfl
  ·obtain ⟨h9,o⟩:=m j h
   by_cases D:j=q
   ·subst D
    rw[V]
    have K:=bP.1 I
    have L:=bz.1 K.2
    have H:∀x∈gh.f t,x∉gh.f j:=fun x J M=>r.cx.dj t j u hq (fun h=>h9 h.symm) x J M
    rw[h2,k1] at H
    refine bP.2 ⟨fun C=> ?_,bz.2 ⟨L.1,bz.2 ⟨r.cx.nd t u,L.2.1,fun a F b G e=>by subst e;exact H a F (by simp[G])⟩,fun a F b G e=> ?_⟩⟩
    ·simp only[aO] at C
     rcases C with C|C|C
     ·exact K.1 (aU _ C)
     ·exact H g C (by simp)
     ·exact K.1 (bd _ C)
    ·subst e
     rcases aO.1 G with G|G
     ·exact H a G (by simp[F])
     ·exact L.2.2 a F a G rfl
   ·have:k.f j=gh.f j:=by simp[k,D]
    rw[this];exact r.cx.nd j o
  ·obtain ⟨h9,o⟩:=m j h
   rcases z j x J with B|⟨rfl,B⟩
   ·exact r.cx.no j o x B
   ·exact r.cx.no t u x B
 ·intro j h
  obtain ⟨h9,o⟩:=m j h
  exact .inl ⟨o,rfl,fun _=>rfl⟩
 ·intro j h x J
  obtain ⟨h9,o⟩:=m j h
  rcases z j x J with B|⟨rfl,B⟩
  ·exact .inr ⟨j,o,B⟩
  ·exact .inr ⟨t,u,B⟩
theorem ZW {q b n:Nat}{E E':TypeId}{ls:List LV}{F:List (Nat×LV)}{i:Int}{k:Bool}(C:Evl A s x (.ref q))(f:s.tab.ent q=some (.obx E b n ls F))(D:Evl A s y (dI i))(u:P.underlying T=some (.slice E'))(p:tsh P E'=some (k,b))(z:Nat.blt d A.n=true)
 (h0:0≤i) (h1:i<n):Does A P ⟨some d,.indexAddr T x y,ty,pos,af,g⟩ s (s.put d (lf (.ept q b i.toNat 0))):=
 Qk rfl z fun gh a w r=>by
  have v:=D.i r
  have B:a.eval x=gh.h q:=C gh a w r ⟨_,f⟩
  obtain ⟨o,g,c,m,fps,j,G,H,I,J,K,L,M⟩:=r.cx.en q _ f
  refine ⟨.pointer (some ⟨g,0+i.toNat*b,none⟩),?_,_,rfl,fun _=>⟨g,n,c,j,by simp⟩⟩
  simp only[execOp,B,j,v,aw,UY u p h0 h1]
  simp
def Qva {gh:Gh}{a:Act}{w:World}(r:Rg A s gh a w){q o n p:Nat}{E:TypeId}{ls:List LV}{k:List (Nat×LV)}{l:LV}(F:s.tab.ent q=some (.obx E o n ls k))(H:(ovr ls k)[p]? =some l){g m c:Nat}(G:gh.h q= .slice (some ⟨g,0,none⟩) m c):
 ∃f v,LO s.tab.al gh w l f v∧w.cell? ⟨g,p,none⟩=some v:=by
 obtain ⟨B,R,u,b,fps,j,S,C,U,V,W,X,D⟩:=r.cx.en q _ F
 rw[G] at j
 simp only[Value.slice.injEq,br,Addr.mk.injEq,and_true] at j
 obtain ⟨rfl,_,_⟩:=j
 obtain ⟨N,z,O,L,v,M,Y,I,J,Z,K,k6⟩:=D.parts H
 refine ⟨z,v,K,?_⟩
 have:(b.toList.take (n*o))[p]? =some v:=by
  rw[I,bw (by omega),J,Nat.sub_self];rfl
 rw[bf] at this
 split at this
 ·simp only[World.cell?,C]
  simpa using this
 ·cases this
def Y4 {q b i j n m t:Nat}{E:TypeId}{ls:List LV}{o:List (Nat×LV)}{E':TypeId}{e':Ty}{ys:List e'.Den}(D:Evl A s x (.ept q b i j))(k:s.tab.ent q=some (.obx E b n ls o))(B:(ovr ls o)[i*b+j]? =some (.ref t))(H:s.tab.ent t=some (.arr E' e' ys))(z:tsh P T=some (false,m))(C:Nat.blt d A.n=true):
 Does A P ⟨some d,.load T x,ty,pos,af,g⟩ s (s.put d (lf (.ref t))):=
 Qk rfl C fun gh a w r=>by
  obtain ⟨g,I,c,p,u⟩:=D gh a w r ⟨_,k⟩
  obtain ⟨f,v,F,G⟩:=Qva r k B p
  refine ⟨v,?_,_,rfl,fun h=>F.2.2 h⟩
  simp only[execOp,u,Instr.loadAt,Instr.sureAddr,aw,be,aF,Yl z _ v G]
def Hb {q k i j n t H:Nat}{E E':TypeId}{e':Ty}{ys:List e'.Den}{ls:List LV}{R:List (Nat×LV)}(I:Evl A s x (.ept q k i j))(N:s.tab.ent q=some (.obx E k n ls R))(hl:(ovr ls R)[i*k+j]? =some (.ref t))(hy:Evl A s y (.ref H))(ht:s.tab.ent H=some (.arr E' e' ys))(hT:tsh P T=some (false,1)):
 Does A P ⟨none,.store T x y,ty,pos,af,g⟩ s ⟨s.tm,(q,some (.obx E k n ls ((i*k+j,.ref H)::R)))::s.tab⟩:=fun a w K Q r hK=>by
 obtain ⟨gh,r⟩:=r
 obtain ⟨g,L,c,h1,h2⟩:=I gh a w r ⟨_,N⟩
 have O:a.eval y=gh.h H:=hy gh a w r ⟨_,ht⟩
 have m:(gh.h H).oneCell'=true:=(r.cx.en H _ ht).oneCell
 obtain ⟨S,g',a1,z,fps,p1,p2,p3,p4,p5,p6,p7,p8⟩:=r.cx.en q _ N
 rw[h1] at p1
 simp only[Value.slice.injEq,br,Addr.mk.injEq,and_true] at p1
 obtain ⟨rfl,rfl,rfl⟩:=p1
 obtain ⟨fa,f1,fb,u,v,C,Z,k2,k3,k4,k5,k6⟩:=p8.parts hl
 obtain ⟨rfl,_,_⟩:=k5
 have Y:i*k+j<(ovr ls R).length:=(ae.1 hl).1
 have a0:L*k≤z.size:=by rw[p6];exact cD _ p4
 have D:(a.eval y).cells=[a.eval y].toArray:=by
  rw[O];cases hq:gh.h H <;> first|rfl|(rw[hq] at m;simp[Value.oneCell'] at m)
 have U:=VX (P:=P) (w:=w) (b:=g) (o:=i*k+j) hT (a.eval y) [a.eval y] D rfl p3 (by omega) (by rw[O];simpa using m)
 have e0:(execOp a.eval ⟨none,.store T x y,ty,pos,af,‹_›⟩).run P w= .ok .skip (Wx w g (i*k+j) [a.eval y]):=by
  simp only[execOp,h2,Instr.storeAt,Instr.sureAddr,aw,be,aF,U]
 unfold Oper.wp
 rw[e0,Oper.upon_skip]
 obtain ⟨F,m1,m2,m3⟩:=Uw g E (0,0) [a.eval y] w (i*k+j) z p3 (by simp;omega)
 have G:∀J,J≠g→(Wx w g (i*k+j) [a.eval y]).heap[J]? =w.heap[J]? :=fun J h=>Y9 _ _ _ _ _ h
 have hN:(g::fps).Nodup:=by rw[← p2];exact r.cx.nd q ⟨_,N⟩
 refine hK _ _ ⟨gh,r.mod N (KR _ _ _ _) (fun J _ W=>G J fun h=>W (by rw[p2,h];simp)) ⟨S,g,c,F,fps,h1,p2,m1,p4,p5,by rw[m2];exact p6,by simpa [ovr] using p7,?_⟩⟩
 have B:∀(l:List LV) (f:List Nat) (c:List Value),(∀x∈f,x∈fps)→LOs s.tab.al gh w l f c→LOs s.tab.al gh (Wx w g (i*k+j) [a.eval y]) l f c:=fun l f c hf h=>h.mono (fun _ _ h=>⟨h,rfl⟩) fun x I=>G x fun h=>(bP.1 hN).1 (h▸hf x I)
 have M:=LOs.put (p:=i*k+j) (l:= .ref H) (f1:=[]) (v:=a.eval y) Y (B _ _ _ (fun x I=>by rw[Z];simp[I]) k4) ⟨rfl,by rw[O];exact m,fun _=>O⟩ (B _ _ _ (fun x I=>by rw[Z];simp[I]) k6)
 rw[Z]
 have e2:F.toList.take (L*k)=u++a.eval y::C:=by
  have V:(u++v::C).length=L*k:=by rw[← k2];simp;omega
  have e3:z.toList=u++v::C++z.toList.drop (L*k):=by rw[← k2,bB]
  rw[m3]
  generalize z.toList.drop (L*k)=rest at e3
  rw[e3,← k3]
  have t1:(u++v::C++rest).take u.length=u:=by rw[aM,dF]
  have t2:(u++v::C++rest).drop (u.length+[a.eval y].length)=C++rest:=by
   rw[aM]
   show (u++(v::C++rest)).drop (u.length+1)=_
   rw[List.drop_length_add_append]
   rfl
  rw[t1,t2]
  have X:(u++a.eval y::C).length=L*k:=by simpa using V
  rw[show u++[a.eval y]++(C++rest)=(u++a.eval y::C)++rest by simp,← X,dF]
 rw[e2]
 exact M
end
def Qov:List LV→List LV→Prop
 | [],ls'=>ls'=[]
 | l::ls,ls'=>∃l' r,ls'=l'::r∧(l=l'∨∃E e,l= .val (.slice none 0 0)∧l'= .dat (.sl E e) [])∧Qov ls r
section
variable {A:Amb}{s:St}
def LVs.nils {al:Nat→Prop}{gh:Gh}{w:World}{ls ls':List LV}{vs:List Value}(h:LVs al gh w ls vs)(k:Qov ls ls'):LVs al gh w ls' vs:=by
 induction ls generalizing ls' vs with
 | nil=>rw[show ls'=[] from k];exact h
 | cons l ls m=>
  obtain ⟨v,a,rfl,b,c⟩:=h
  obtain ⟨n,r,rfl,f,j⟩:=k
  refine ⟨v,a,rfl,?_,m c j⟩
  rcases f with rfl|⟨E,e,rfl,rfl⟩
  ·exact b
  ·rw[show v= .slice none 0 0 from b]
   have:Own (.sl E e) w [] [.slice none 0 0] []:= .inl ⟨rfl,rfl,rfl⟩
   exact this.rd (by simp)
def Ev.nils {x:Operand}{b:Bool}{ls ls':List LV}(h:Ev A s x (b,ls))(k:Qov ls ls'):Ev A s x (b,ls'):=fun gh a w r=>by
 have j:=h gh a w r
 cases b with
 | true=>obtain ⟨n,o,c⟩:=j;exact ⟨n,o,c.nils k⟩
 | false=>
  obtain ⟨l,rfl,c⟩:=j
  obtain ⟨f,r,rfl,p,q⟩:=k
  rw[show r=[] from q]
  have u:LVs s.tab.al gh w [l] [a.eval x]:=⟨_,[],rfl,c,rfl⟩
  obtain ⟨v,n,m,z,_⟩:=u.nils (ls':=[f]) ⟨f,[],rfl,p,rfl⟩
  simp only[aN] at m
  exact ⟨f,rfl,m.1▸z⟩
def Qxs {x:Operand}{ls:List LV}{i:Nat}{n:Int}(h:Ev A s x (true,ls))(hi:ls[i]? =some (dI n)):∀gh a w,Rg A s gh a w→ -9223372036854775808≤n∧n≤9223372036854775807:=fun gh a w r=>by
 obtain ⟨j,f,b⟩:=h gh a w r
 obtain ⟨v,_,c⟩:=b.get hi
 exact (LVR.int c).2
end
def QsK {P:Program}{f:FuncId}{args:List (Bool×List LV)}{T:Tab}{k:Nat}{O:PV→Tab→Prop}(h:∀a,a=O→FC P f args T k a):FC P f args T k O:=h O rfl
def Ql {P:Program}{f n:Nat}{fn:Func}{c:Code}{args:List (Bool×List LV)}{T:Tab}{k:Nat}{O:PV→Tab→Prop}(q:P.funcs[f]? =some fn)(hb:fn.body=some c)(u:Nat.ble args.length fn.ntmps=true)(v:fn.ntmps=n)
 (h:∀b,b=O→∀m a X h0 j,AC ⟨m,a,X,n,k,h0,j⟩ P c (fin ⟨m,a,X,n,k,h0,j⟩ P fn (Qa7 b k)) ⟨QcT 0 args,T⟩):FC P f args T k O:=
 QsK fun b o=>FC.ren (QCk q hb u fun A p r=>by
  obtain ⟨m,a,X,B,z,h0,j⟩:=A
  obtain rfl:B=n:=p.trans v
  obtain rfl:z=k:=r
  exact h b o m a X h0 j)
section
variable {A:Amb}{P:Program}{s s':St}{Q:Exit→St→Prop}{ops:Array Oper}{l:List Oper}{op:Op}{d:Option Nat}{e:Nat}{ty:TypeId}{pos:String}{af:Array Edge}
def lc (h:Does A P ⟨d,op,ty,pos,af,none⟩ s s')(k:AL A P ops l Q s'):AL A P ops (⟨d,op,ty,pos,af,none⟩::l) Q s:=AL.cons rfl h k
def lm {t:Nat}{pv:PV}(h:lk s.tm t=some pv)(a:Nat.blt e A.n=true)(k:AL A P ops l Q (s.put e pv)):AL A P ops (⟨some e,.move (.tmp t),ty,pos,af,none⟩::l) Q s:=AL.cons rfl (Kh h a) k
def la {t:Nat}{pv:PV}(h:lk s.tm t=some pv)(a:Nat.blt e A.n=true)(k:AL A P ops l Q (s.put e pv)):AL A P ops (⟨some e,.assign (.tmp t),ty,pos,af,none⟩::l) Q s:=AL.cons rfl (UM h a) k
def ac {a:St}(h:Does A P ⟨d,op,ty,pos,af,none⟩ s s')(e:s'=a):Acts A P ops ⟨d,op,ty,pos,af,none⟩ s a:=Qj8 rfl h e
def am {t:Nat}{pv:PV}{a:St}(h:lk s.tm t=some pv)(c:Nat.blt e A.n=true)(b:s.put e pv=a):Acts A P ops ⟨some e,.move (.tmp t),ty,pos,af,none⟩ s a:=Qj8 rfl (Kh h c) b
end
@[reducible] def lI (x:Int):PV:=lf (dI x)
@[reducible] def lB (x:Bool):PV:=lf (dB x)
@[reducible] def lP (q o:Nat):PV:=lf (.ptr q o)
@[reducible] def lR (q:Nat):PV:=lf (.ref q)
@[reducible] def io (d:Nat) (p:PV):Item:=⟨some d,p,[]⟩
@[reducible] def iu (d:Nat):Item:=io d (lf (.val undef))
def dm:Nat→Nat→Nat→List Nat
 | 0,_,_=>[]
 | f+1,i,m=>bif Nat.beq m 0 then [] else bif Nat.beq (Nat.mod m 2) 1 then i::dm f (i+1) (Nat.div m 2) else dm f (i+1) (Nat.div m 2)
def dms (l:List Nat):List (List Nat):=l.map (dm 200 0)
def sv (plan:List Item)(deps:List (List Nat))(s0:St)(i t:Nat):Option PV:=match QzK plan deps i t with
 | true=>lk (pTm plan (QtN deps i) 0 s0.tm) t
 | false=>none
def se (plan:List Item)(deps:List (List Nat))(s0:St)(i q:Nat):Option Ent:=match QC1 plan deps i q with
 | true=>(pTb plan (QtN deps i) 0 s0.tab).ent q
 | false=>none
section
variable {A:Amb}{P:Program}{s s' s0:St}{Q:Exit→St→Prop}{ops:Array Oper}{l:List Oper}{op:Op}{e t i:Nat}{ty T:TypeId}{pos:String}{af:Array Edge}{plan:List Item}{deps:List (List Nat)}
def At.k {pv:PV}(b:At plan deps s0 i s)(h:sv plan deps s0 i t=some pv):lk s.tm t=some pv:=by
 unfold sv at h
 split at h
 ·rename_i a;rw[b.tm t a];exact h
 ·cases h
def At.n {x:Ent}(b:At plan deps s0 i s)(q:Nat)(h:se plan deps s0 i q=some x):s.tab.ent q=some x:=by
 unfold se at h
 split at h
 ·rename_i a;rw[b.en q a];exact h
 ·cases h
def At.v {x:LV}(a:At plan deps s0 i s)(h:sv plan deps s0 i t=some (lf x)):Evl A s (.tmp t) x:=Qa (a.k h)
def At.w {b:Bool}{ls:List LV}(a:At plan deps s0 i s)(h:sv plan deps s0 i t=some (.cm b ls)):Ev A s (.tmp t) (b,ls):=Qm (a.k h)
def dxm {pv:PV}(h:sv plan deps s0 i t=some pv)(a:Nat.blt e A.n=true):∀s,At plan deps s0 i s→Acts A P ops ⟨some e,.move (.tmp t),ty,pos,af,none⟩ s (U6 s ⟨some e,pv,[]⟩):=fun _ b=>am (b.k h) a rfl
def dxt {pv:PV}(h:sv plan deps s0 i t=some pv)(a:Nat.blt e A.n=true):∀s,At plan deps s0 i s→Acts A P ops ⟨some e,.assign (.tmp t),ty,pos,af,none⟩ s (U6 s ⟨some e,pv,[]⟩):=fun _ b=>ac (UM (b.k h) a) rfl
def dxf {q off o f:Nat}{pv:PV}(c:fld P T f=some o)(h:sv plan deps s0 i t=some (lf (.ptr q off)))(a:((se plan deps s0 i q).isSome&&Nat.blt e A.n)=true)(j:lf (.ptr q (off+o))=pv):∀s,At plan deps s0 i s→Acts A P ops ⟨some e,.fieldAddr T (.tmp t) f,ty,pos,af,none⟩ s (U6 s ⟨some e,pv,[]⟩):=fun s b=>by
 subst j
 simp only[aH] at a
 obtain ⟨x,k⟩:=bq.1 a.1
 exact ac (J7 (b.v h) c (by rw[b.n _ k];rfl) a.2) rfl
def dxn {q off:Nat}{pv:PV}(h:sv plan deps s0 i t=some (lf (.ptr q off)))(a:((se plan deps s0 i q).isSome&&Nat.blt e A.n)=true)(c:lf (.ptr q off)=pv):∀s,At plan deps s0 i s→Acts A P ops ⟨some e,.nilCheck (.tmp t),ty,pos,af,none⟩ s (U6 s ⟨some e,pv,[]⟩):=fun s b=>by
 subst c
 simp only[aH] at a
 obtain ⟨x,f⟩:=bq.1 a.1
 exact ac (QcM (b.v h) (by rw[b.n _ f];rfl) a.2) rfl
def dxl {q off n:Nat}{E:TypeId}{cs:List LV}{pv:PV}{x:LV}(b:tsh P T=some (false,n))(h:sv plan deps s0 i t=some (lf (.ptr q off)))(c:se plan deps s0 i q=some (.box E cs))(f:cs[off]? =some x)(j:Nat.blt e A.n=true)(k:lf x=pv):
 ∀s,At plan deps s0 i s→Acts A P ops ⟨some e,.load T (.tmp t),ty,pos,af,none⟩ s (U6 s ⟨some e,pv,[]⟩):=fun s a=>by
 subst k
 exact ac (Qa2 (a.v h) (a.n _ c) b f j) rfl
def dxa {q off n:Nat}{E:TypeId}{cs:List LV}{pv:PV}(c:tsh P T=some (true,n))(h:sv plan deps s0 i t=some (lf (.ptr q off)))(f:se plan deps s0 i q=some (.box E cs))(a:(Nat.ble (off+n) cs.length&&Nat.blt e A.n)=true)(j:ag ((cs.drop off).take n)=pv):
 ∀s,At plan deps s0 i s→Acts A P ops ⟨some e,.load T (.tmp t),ty,pos,af,none⟩ s (U6 s ⟨some e,pv,[]⟩):=fun s b=>by
 subst j
 simp only[aH] at a
 exact ac (J8 (b.v h) (b.n _ f) c a.1 a.2) rfl
def dxo {j d:Nat}{b:Bool}(a:(ops[j]?).bind (·.dst)=some d)(hb:sv plan deps s0 i d=some (lf (dB (!b))))(c:Nat.blt e A.n=true):∀s,At plan deps s0 i s→Acts A P ops ⟨some e,op,ty,pos,af,some (j,b)⟩ s (U6 s ⟨some e,lf (.val undef),[]⟩):=fun _ f=>
 Qwo rfl a (f.k hb) rfl c
def day {a:St}{j d:Nat}{b:Bool}(c:(ops[j]?).bind (·.dst)=some d)(hb:lk s.tm d=some (lf (dB b)))(h:Does A P ⟨some e,op,ty,pos,af,some (j,b)⟩ s s')(f:s'=a):Acts A P ops ⟨some e,op,ty,pos,af,some (j,b)⟩ s a:=Qqs rfl c hb h f
def lgn {j d:Nat}{b:Bool}(a:(ops[j]?).bind (·.dst)=some d)(hb:lk s.tm d=some (lf (dB (!b))))(c:Nat.blt e A.n=true)(k:AL A P ops l Q (s.put e (lf (.val undef)))):AL A P ops (⟨some e,op,ty,pos,af,some (j,b)⟩::l) Q s:=Qj7 rfl a hb k c
def lgy {a:Option Nat}{j d:Nat}{b:Bool}(c:(ops[j]?).bind (·.dst)=some d)(hb:lk s.tm d=some (lf (dB b)))(h:Does A P ⟨a,op,ty,pos,af,some (j,b)⟩ s s')(k:AL A P ops l Q s'):AL A P ops (⟨a,op,ty,pos,af,some (j,b)⟩::l) Q s:=Qiz rfl c hb h k
def dw {id:Nat}{y:Code}(plan:List Item)(a:List Nat)(c:P.follows .mixedOrders=true)(f:l.length=plan.length)(b:(QaO l.toArray (dms a) plan.length&&QaY plan (dms a)&&JM l.toArray plan.length)=true)
 (H:ActsL A P l.toArray plan (dms a) s0 l plan 0) (k:AC A P y Q (stD plan s0 fun _=>true)):AC A P (.seq (.region id l.toArray true) y) Q s0:=Q5 (Qe6 plan (dms a) c f b H k)
def dv {id:Nat}(plan:List Item)(a:List Nat)(c:P.follows .mixedOrders=true)(f:l.length=plan.length)(b:(QaO l.toArray (dms a) plan.length&&QaY plan (dms a)&&JM l.toArray plan.length)=true)
 (H:ActsL A P l.toArray plan (dms a) s0 l plan 0) (k:Q .normal (stD plan s0 fun _=>true)):AC A P (.region id l.toArray true) Q s0:=Qe6 plan (dms a) c f b H k
def dz {id:Nat}{y:Code}{b:Exit→St→Prop}(plan:List Item)(a:List Nat)(f:P.follows .mixedOrders=true)(h:l.length=plan.length)(c:(QaO l.toArray (dms a) plan.length&&QaY plan (dms a)&&JM l.toArray plan.length)=true)
 (H:ActsL A P l.toArray plan (dms a) s0 l plan 0) (k:AC A P y b (stD plan s0 fun _=>true)):AC A P (.region id l.toArray true) (QaZ (AC A P y b) Q) s0:=Qe6 plan (dms a) f h c H k
end
section
variable {A:Amb}{P:Program}{s:St}{x y:Operand}{d:Nat}{T T' ty:TypeId}{pos:String}{af:Array Edge}{g:Option (Nat×Bool)}
variable {T' E:TypeId}
def QgR (w:World)(T T' E:TypeId)(c:Nat)(e:P.underlying T=some (.slice E))(b:P.underlying E=some (.int .u8))(a:P.underlying T'=some .string):
 (convert T T' (.slice none 0 c)).run P w= .ok (.string ByteArray.empty) w:=by
 rw[run_convert_bytes_string w T T' E none 0 c e b a]
 simp[Conv.bytesToString,be]
def QiN {ys:List UInt8}{a:Act}{w:World}(e:Rep (.sl E .u8) w [a.eval x] ys)(k:P.underlying T=some (.slice E))(h:P.underlying E=some (.int .u8))(f:P.underlying T'=some .string):
 (convert T T' (a.eval x)).run P w= .ok (.string ⟨ys.toArray⟩) w:=by
 obtain ⟨B,c,u,D,F⟩:=e.slv
 rw[u] at e ⊢
 cases ys with
 | nil=>
  cases B with
  | none=>exact QgR w T T' E c k h f
  | some b=>exact run_convert_bytes_back w T T' E b c [] k h f (by simp)
 | cons z v=>
  obtain ⟨b,o,l,rfl,_,_⟩:=e.at_ (i:=0) (x:=z) rfl
  refine run_convert_bytes_back w T T' E ⟨b,o,none⟩ c (z::v) k h f fun j t=> ?_
  obtain ⟨C,G,l,m,n,p⟩:=e.at_ (ak t)
  simp only[br,Addr.mk.injEq] at m
  obtain ⟨rfl,rfl,_⟩:=m
  have q:l=_:=n
  have:=p 0 _ (by rw[q];rfl)
  have r:(⟨b,o,none⟩:Addr).add j=⟨b,o+j*Ty.u8.wd+0,none⟩:=by rw[Addr.add_lit];simp[Ty.wd]
  rw[r];exact this
def Y5 {ys:List UInt8}(k:Qfl A s x (.sl E .u8) ys)(j:P.underlying T=some (.slice E))(f:P.underlying E=some (.int .u8))(e:P.underlying T'=some .string)(i:Nat.blt d A.n=true):
 Does A P ⟨some d,.convert T T' x,ty,pos,af,g⟩ s (s.put d (lf (dS ⟨ys.toArray⟩))):=
 Qk rfl i fun b a w r=>by
  have h:=k b a w r
  obtain ⟨B,c,o,l,m⟩:=h.slv
  refine ⟨_,?_,_,rfl,Qeu (x:=⟨ys.toArray⟩) ?_⟩
  ·simp only[execOp,aw]
   rw[QiN h j f e]
   rfl
  ·show ys.toArray.size≤maxLen
   simp;omega
def QhA {n:Int}(o:Evl A s x (dI n))(m:P.underlying T=some (.int .i64))(k:P.underlying T'=some (.int .u8))(h0:0≤n)(p:n<256)(l:Nat.blt d A.n=true):
 Does A P ⟨some d,.convert T T' x,ty,pos,af,g⟩ s (s.put d (lf (.dat .u8 (UInt8.ofNat n.toNat)))):=
 Qk rfl l fun b a w r=>by
  have h:=o.i r
  have c:(UInt8.ofNat n.toNat).toNat=n.toNat:=by
   rw[UInt8.toNat_ofNat']
   exact cH (by omega)
  have e:IntKind.u8.wrap n=n:=by
   simp[IntKind.wrap,IntKind.bits,IntKind.signed]
   omega
  have f:((UInt8.ofNat n.toNat).toNat:Int)=n:=by rw[c];omega
  have j:LVR s.tab.al b w (.dat .u8 (UInt8.ofNat n.toNat)) (.int .u8 n):=by
   have:=QiD (al:=s.tab.al) (gh:=b) (w:=w) (x:=UInt8.ofNat n.toNat)
   rwa [f] at this
  refine ⟨.int .u8 n,?_,_,rfl,j⟩
  simp only[execOp,h,convert,run_underlying m,run_underlying k,aw,aF,Conv.intToInt,e]
  simp
def Rg.drewR {gh:Gh}{a:Act}{w:World}(r:Rg A s gh a w):Rg A s gh a w.drew:=
 r.step (T:=s.tab) ⟨fun q e h=>(r.cx.en q e h).mono (fun _ _ h=>⟨h,rfl⟩) (fun g b=>⟨b,rfl⟩) rfl rfl (fun _ _=>rfl),r.cx.dj,r.cx.nd,r.cx.no,r.cx.nl⟩ (fun q h=> .inl ⟨h,rfl,fun _=>rfl⟩) (fun g h=>⟨h,rfl⟩) ⟨rfl,rfl,rfl,aP _⟩
  (fun _ _ _=>rfl) (fun g h=> .inl h) (fun q h g b=> .inr ⟨q,h,b⟩)
def QbV (t:Nat){b:BA}(B:Evl A s x (dS b))(v:P.underlying T=some .string)(p:P.underlying T'=some (.slice E))(q:P.underlying E=some (.int .u8))(u:Nat.blt d A.n=true)(i:Fresh s t)(j:A.k0≤t):
 Does A P ⟨some d,.convert T T' x,ty,pos,af,g⟩ s (s.new d t (.ref t) (.bys E b.toList)):=fun a w K Q r m=>by
 obtain ⟨l,r⟩:=r
 have z:Rep .str w [a.eval x] b:=Rd.rep (B l a w r)
 obtain ⟨f,k⟩:=z
 simp only[aN,and_true] at f
 have c:b.toList.length=b.size:=by simp[bc]
 have e:(execOp a.eval ⟨some d,.convert T T' x,ty,pos,af,g⟩).run P w= .ok (.value (.slice (some ⟨w.heap.size,0,none⟩) b.size (grownCap w b.size 0 E))) (w.drew.alloc (.cells (bytesRow b (grownCap w b.size 0 E)) E ((bytesRow b (grownCap w b.size 0 E)).size,(bytesRow b (grownCap w b.size 0 E)).size+1))):=by
  simp only[execOp,f,aw,run_bytes_of_string w T T' E b v p q]
  simp
 unfold Oper.wp
 rw[e,Oper.upon_value]
 have o:=grownCap_ge w b.size 0 E
 have h:=grownCap_le_maxLen w b.size 0 E k
 refine m _ _ ⟨_,(r.drewR.grow t i j _ (.slice (some ⟨w.heap.size,0,none⟩) b.size (grownCap w b.size 0 E)) [w.heap.size] (.bys E b.toList) (by simp) (by simp) (by simp[Ent.tags]) ?_).put (aD u) (pv:=lf (.ref t)) ⟨_,rfl,fun _=>by simp⟩⟩
 refine ⟨w.heap.size,grownCap w b.size 0 E,bytesRow b (grownCap w b.size 0 E),by simp[c],by simp,⟨_,heap_alloc_new w.drew _,.inr rfl⟩,by omega,h,?_,?_⟩
 ·simp only[bytesRow,Array.size_append,Array.size_map,Array.size_replicate]
  show b.size+_=_
  omega
 ·simp only[bytesRow,cG,da]
  rw[List.take_append_of_le_length (by simp[c]),aJ (by simp[c]),bc]
def QeE {gh:Gh}{a:Act}{w:World}(r:Rg A s gh a w){q:Nat}{l:List UInt8}(e:s.tab.ent q=some (.bys E l)):∃g c cur,gh.h q= .slice (some ⟨g,0,none⟩) l.length c∧gh.f q=[g]∧Row w g cur E∧l.length≤c∧c≤maxLen∧cur.size=c∧cur.toList.take l.length=l.map fun b=>Value.int .u8 b.toNat:=
 r.cx.en q _ e
def Qku {cur:Array Value}{l:List UInt8}(h:cur.toList.take l.length=l.map fun b=>Value.int .u8 b.toNat){i:Nat}{z:UInt8}(c:l[i]? =some z):cur[i]? =some (.int .u8 z.toNat):=by
 have a:(cur.toList.take l.length)[i]? =some (.int .u8 z.toNat):=by rw[h,bl,c];rfl
 rw[bf] at a
 split at a
 ·simpa using a
 ·cases a
theorem Vj {q:Nat}{l:List UInt8}{E':TypeId}{i:Int}{k:Bool}(z:Evl A s x (.ref q))(j:s.tab.ent q=some (.bys E l))(B:Evl A s y (dI i))(p:P.underlying T=some (.slice E'))(o:tsh P E'=some (k,1))(u:Nat.blt d A.n=true)
 (h0:0≤i) (h1:i<l.length):Does A P ⟨some d,.indexAddr T x y,ty,pos,af,g⟩ s (s.put d (lf (.ept q 1 i.toNat 0))):=
 Qk rfl u fun e a w r=>by
  have t:=B.i r
  have v:a.eval x=e.h q:=z e a w r ⟨_,j⟩
  obtain ⟨b,c,m,f,C,D,F,G,H,I⟩:=QeE r j
  refine ⟨.pointer (some ⟨b,0+i.toNat*1,none⟩),?_,_,rfl,fun _=>⟨b,l.length,c,f,by simp⟩⟩
  simp only[execOp,v,f,t,aw,UY p o h0 h1]
  simp
def Qfb {q i n:Nat}{l:List UInt8}{z:UInt8}(C:Evl A s x (.ept q 1 i 0))(h:s.tab.ent q=some (.bys E l))(D:l[i]? =some z)(u:tsh P T=some (false,n))(B:Nat.blt d A.n=true):
 Does A P ⟨some d,.load T x,ty,pos,af,g⟩ s (s.put d (lf (.dat .u8 z))):=
 Qk rfl B fun f a w r=>by
  obtain ⟨g,m,c,o,p⟩:=C f a w r ⟨_,h⟩
  obtain ⟨b,j,k,e,H,F,I,J,K,G⟩:=QeE r h
  rw[o] at e
  simp only[Value.slice.injEq,br,Addr.mk.injEq,and_true] at e
  obtain ⟨rfl,rfl,rfl⟩:=e
  refine ⟨.int .u8 z.toNat,?_,_,rfl,Own.rd (w:=w) (N:=f.N) (t:= .u8) (fp:=[]) ⟨rfl,rfl⟩ (by simp)⟩
  have v:w.cell? ⟨g,i*1+0,none⟩=some (.int .u8 z.toNat):=by rw[F.cell,dU,ec];exact Qku G D
  simp only[execOp,p,Instr.loadAt,Instr.sureAddr,aw,be,aF,Yl u _ _ v]
def QjB {w:World}{b o:Nat}{v u:Value}(c:tsh P T=some (false,1))(hv:v.cells= #[v])(a:v.oneCell'=true)(e:w.cell? ⟨b,o,none⟩=some u)(f:w.frozen? ⟨b,o,none⟩=false):
 (storeVar T ⟨b,o,none⟩ v).run P w= .ok () (w.setCell ⟨b,o,none⟩ v):=by
 simp only[storeVar,aw,YD c,aF,hv]
 simp[storeCells,aw,Addr.add_lit,run_store P w _ v .plain a,stored,e,f,aF]
def Ha {q i:Nat}{l:List UInt8}{z:UInt8}(Z:Evl A s x (.ept q 1 i 0))(C:s.tab.ent q=some (.bys E l))(hi:i<l.length)(hy:Evl A s y (.dat .u8 z))(V:tsh P T=some (false,1)):
 Does A P ⟨none,.store T x y,ty,pos,af,g⟩ s ⟨s.tm,(q,some (.bys E (l.set i z)))::s.tab⟩:=fun a w K Q r U=>by
 obtain ⟨B,r⟩:=r
 obtain ⟨g,m,c,H,R⟩:=Z B a w r ⟨_,C⟩
 obtain ⟨b,L,e,F,I,G,k4,k5,k6,k7⟩:=QeE r C
 rw[H] at F
 simp only[Value.slice.injEq,br,Addr.mk.injEq,and_true] at F
 obtain ⟨rfl,rfl,rfl⟩:=F
 have t:Rep .u8 w [a.eval y] z:=Rd.rep (hy B a w r)
 have t:[a.eval y]=[.int .u8 z.toNat]:=t
 simp only[aN,and_true] at t
 have n:i<e.size:=by omega
 have W:w.cell? ⟨g,i,none⟩=some e[i]:=by rw[G.cell];simp[n]
 have Y:=G.soft n
 have M:(execOp a.eval ⟨none,.store T x y,ty,pos,af,‹_›⟩).run P w= .ok .skip (w.setCell ⟨g,i,none⟩ (.int .u8 z.toNat)):=by
  have S:=QjB (P:=P) (w:=w) (b:=g) (o:=i) (v:= .int .u8 z.toNat) V rfl rfl W Y
  simp only[execOp,R,t,Instr.storeAt,Instr.sureAddr,aw,be,aF,dU,ec,S]
 unfold Oper.wp
 rw[M,Oper.upon_skip]
 obtain ⟨f,p1,p2⟩:=G
 obtain ⟨k,m1,J,m3⟩:=Uw g E f [.int .u8 z.toNat] w i e p1 (by simp;omega)
 refine U _ _ ⟨B,r.mod C (KR w g i [.int .u8 z.toNat]) (fun O _ D=>Y9 w g i [.int .u8 z.toNat] O fun h=>D (by rw[I,h];simp)) ⟨g,c,k,by simpa using H,I,⟨f,m1,by rw[J];exact p2⟩,by simpa using k4,k5,J.trans k6,?_⟩⟩
 rw[m3,ax]
 have N:l.map (fun b=>Value.int .u8 b.toNat)=e.toList.take l.length:=k7.symm
 rw[List.map_set,N]
 apply bL
 intro j
 have X:e.toList.length=e.size:=by simp
 rw[bp,bf,au]
 by_cases p:j<l.length
 ·rw[if_pos p]
  by_cases u:i=j
  ·subst u
   rw[if_pos rfl,if_pos (by omega),aM,bw (by simp[au];omega)]
   simp[au,dt (show i≤e.size by omega)]
  ·rw[if_neg u,bf,if_pos p]
   rcases Nat.lt_or_gt_of_ne u with h|h
   ·rw[aM,bw (by rw[au];omega),au,bw (by simp;omega),dy]
    congr 1
    simp
    omega
   ·rw[aM,bm (by rw[au];omega),bf,if_pos h]
 ·rw[if_neg p,if_neg (by omega),bf,if_neg p]
def Qki {q:Nat}{l:List UInt8}(h:Evl A s x (.ref q))(e:s.tab.ent q=some (.bys E l)):Qfl A s x (.sl E .u8) l:=fun c a w r=>by
 rw[show a.eval x=c.h q from h c a w r ⟨_,e⟩]
 obtain ⟨g,b,k,n,B,o,p,t,C,v⟩:=QeE r e
 rw[n]
 refine ⟨_,b,rfl,p,t,fun _=>⟨g,0,rfl,fun i z m=>⟨[.int .u8 z.toNat],rfl,fun j u f=> ?_⟩⟩⟩
 cases j with
 | zero=>
  obtain rfl:Value.int .u8 z.toNat=u:=by simpa using f
  rw[o.cell]
  simpa [Ty.wd] using Qku v m
 | succ j=>simp at f
end
end Go.Proofs.YtjfpbcmfbnnooaaGreat
