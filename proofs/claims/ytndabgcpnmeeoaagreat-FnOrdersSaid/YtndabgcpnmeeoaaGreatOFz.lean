/- Abstract states: a slice of slices of one's own, opened: its cells lie apart from what they lead to, and both stay owned. No program is named here. -/
import Derived.Test.YtndabgcpnmeeoaaGreatOSo
import Derived.Test.YtndabgcpnmeeoaaGreatONm
import Derived.Test.YtndabgcpnmeeoaaGreatOWb
import Derived.Shelf.SlSortCmp.NoneTotal
import Derived.Shelf.SlLaysF
set_option linter.unusedSimpArgs false
set_option linter.unusedVariables false
set_option linter.unusedSectionVars false
namespace Go.Proofs.YtndabgcpnmeeoaaGreat
set_option maxHeartbeats 4000000
set_option maxRecDepth 100000
open Go.RowKit
theorem QfB {w:World}:∀{zs:List Hdr} {fp:List Nat} {cs:List Value},OwnL (Own .vl w) fp cs zs→fp=[]∧cs=zs.map hdV
 | [],_,_,h=>⟨h.1,h.2⟩
 | z :: zs,_,_,⟨f1,f2,c1,c2,h1,h2,h3,h4⟩=>by
  obtain ⟨b,i⟩:=QfB h4
  have a:f1=[]∧c1=[hdV z]:=h3
  exact ⟨by rw[h1,a.1,b]; rfl,by rw[h2,a.2,i]; rfl⟩
section
variable {E:TypeId}{e:Ty}{w:World}{f:Hdr→List e.Den}
theorem QfA:∀{l vs:List Hdr},l.Sublist vs→∀{fp:List Nat},OwnL (Own (.sl E e) w) fp (vs.map hdV) (vs.map f)→∃b,b.Sublist fp∧OwnL (Own (.sl E e) w) b (l.map hdV) (l.map f)
 | _,_, .slnil,fp,h=>⟨[],List.nil_sublist _,⟨rfl,rfl⟩⟩
 | _,_, .cons a s,fp,h=>by
  obtain ⟨k,p,c1,c2,rfl,i,j,m⟩:=h
  obtain ⟨z,rfl⟩:=J5 j
  simp only[aU,bH,bN,aD] at i
  obtain ⟨_,rfl⟩:=i
  obtain ⟨b,n,o⟩:=QfA s m
  exact ⟨b,n.trans (List.sublist_append_right ..),o⟩
 | _,_, .cons_cons a s,fp,h=>by
  obtain ⟨k,p,c1,c2,rfl,i,j,m⟩:=h
  obtain ⟨z,rfl⟩:=J5 j
  simp only[aU,bH,bN,aD] at i
  obtain ⟨q,rfl⟩:=i
  obtain ⟨b,n,o⟩:=QfA s m
  exact ⟨k++b,(cI _).append n,⟨k,b,[hdV z],_,rfl,by rw[aU,q]; rfl,j,o⟩⟩
theorem Qhc:∀{l vs:List Hdr},vs.Perm l→∀{fp:List Nat},OwnL (Own (.sl E e) w) fp (vs.map hdV) (vs.map f)→∃i,fp.Perm i∧OwnL (Own (.sl E e) w) i (l.map hdV) (l.map f):=by
 intro l vs G
 induction G with
 | nil=>intro fp h; exact ⟨fp,dh _,h⟩
 | cons a _ H=>
  intro fp h
  obtain ⟨j,D,c1,c2,rfl,k,m,p⟩:=h
  obtain ⟨z,rfl⟩:=J5 m
  simp only[aU,bH,bN,aD] at k
  obtain ⟨q,rfl⟩:=k
  obtain ⟨i,u,v⟩:=H p
  exact ⟨j++i,u.append_left j,⟨j,i,[hdV z],_,rfl,by rw[aU,q]; rfl,m,v⟩⟩
 | swap a b l=>
  intro fp h
  obtain ⟨j,D,c1,c2,rfl,k,m,p⟩:=h
  obtain ⟨z,rfl⟩:=J5 m
  simp only[aU,bH,bN,aD] at k
  obtain ⟨q,rfl⟩:=k
  obtain ⟨x,n,M,N,rfl,B,C,I⟩:=p
  obtain ⟨y,rfl⟩:=J5 C
  simp only[bH,bN,aD] at B
  obtain ⟨J,rfl⟩:=B
  refine ⟨x++(j++n), ?_,⟨x,j++n,[hdV y],hdV z :: l.map hdV,rfl,by rw[aU,aU,q,J]; rfl,C,⟨j,n,[hdV z],_,rfl,rfl,m,I⟩⟩⟩
  rw[← aK,← aK]
  exact (List.perm_append_comm).append_right n
 | trans _ _ r t=>
  intro fp h
  obtain ⟨F,u,v⟩:=r h
  obtain ⟨o,K,L⟩:=t v
  exact ⟨o,u.trans K,L⟩
theorem Qj0 {f1 i:Hdr→List e.Den}{b:List Hdr}{g:Hdr→List e.Den}:∀{a:List Hdr} {h p2:List Nat},OwnL (Own (.sl E e) w) h (a.map hdV) (a.map f1)→OwnL (Own (.sl E e) w) p2 (b.map hdV) (b.map i)→
 (∀v∈a,g v=f1 v)→(∀v∈b,g v=i v)→OwnL (Own (.sl E e) w) (h++p2) ((a++b).map hdV) ((a++b).map g)
 | [],h,p2,h1,h2,_,k2=>by
  rw[show h=[] from h1.1,bN,bN,cJ k2]; exact h2
 | v :: a,h,p2,h1,h2,k1,k2=>by
  obtain ⟨l,m,c1,c2,rfl,j,k,n⟩:=h1
  obtain ⟨z,rfl⟩:=J5 k
  simp only[aU,bH,bN,aD] at j
  obtain ⟨o,rfl⟩:=j
  rw[aK]
  exact ⟨l,m++p2,[hdV z],_,rfl,by rw[bH,aU,o]; rfl,by rw[k1 v (aw ..)]; exact k,Qj0 n h2 (fun u p=>k1 u (ax _ p)) k2⟩
end
section
variable {A:Amb}{P:Program}{s:St}{Q:Exit→St→Prop}{c:Code}
theorem R.poolO {q:Nat}(p:Nat){E E':TypeId}{e:Ty}{xs:List (List e.Den)}{a:Act}{w:World}(he:s.tab.ent q=some (.arr E (.sl E' e) xs))(B:Fresh s p)(hk:A.k0≤p)(r:R A s a w):
 ∃(vs:List Hdr) (f:Hdr→List e.Den),vs.map f=xs∧R A ⟨s.tm,(p,some (.pl true (.sl E' e) vs f)) :: (q,some (.arr E .vl vs)) :: s.tab⟩ a w:=by
 obtain ⟨o,r⟩:=r
 have G:s.tab.al q:=⟨_,he⟩
 have K:q≠p:=fun h=>B.al (h▸G)
 have hO:Own (.sl E (.sl E' e)) w (o.f q) [o.h q] xs:=r.cx.en q _ he
 obtain ⟨C,D,vs,f,V,h2,h3,h4⟩:=QfC hO
 have J:=r.cx.nd q G
 rw[V] at J
 obtain ⟨n1,n2,n3⟩:=aT.1 J
 have mg:∀g∈C,g∈o.f q:=fun g j=>by rw[V]; exact aH _ j
 have X:∀g∈D,g∈o.f q:=fun g j=>by rw[V]; exact aN _ j
 have l:∀t,Tab.al ((p,some (.pl true (.sl E' e) vs f)) :: (q,some (.arr E .vl vs)) :: s.tab) t→t=p∨(t≠p∧s.tab.al t):=fun t ⟨x,m⟩=>by
  by_cases b:t=p
  ·exact .inl b
  ·refine .inr ⟨b, ?_⟩
   rw[Qd,if_neg b,Qd] at m
   by_cases i:t=q
   ·rw[i]; exact G
   ·rw[if_neg i] at m; exact ⟨_,m⟩
 let k:Gh:=⟨fun t=>if t=p then .slice none 0 0 else o.h t,fun t=>if t=p then D else if t=q then C else o.f t,o.N⟩
 have S:k.f q=C:=by show (if q=p then D else if q=q then C else o.f q)=C; rw[if_neg K,if_pos rfl]
 have F:k.f p=D:=if_pos rfl
 have O:∀t,t≠p→t≠q→k.f t=o.f t:=fun t b i=>by show (if t=p then D else if t=q then C else o.f t)=_; rw[if_neg b,if_neg i]
 have T:∀t,t≠p→k.h t=o.h t:=fun t b=>if_neg b
 have z:∀t,t≠p→∀g∈k.f t,g∈o.f t:=fun t b g j=>by
  by_cases i:t=q
  ·rw[i,S] at j; rw[i]; exact mg g j
  ·rwa [O t b i] at j
 have H:∀t,t≠p→s.tab.al t→∀g∈k.f t,g∉D:=fun t b n g j I=>by
  by_cases i:t=q
  ·rw[i,S] at j; exact n3 g j g I rfl
  ·rw[O t b i] at j; exact r.cx.dj t q n G i g j (X g I)
 refine ⟨vs,f,h4,k,r.step ⟨fun t x m=> ?_,fun t M y L hn g j u=> ?_,fun t y=> ?_,fun t y g j v=> ?_,r.cx.nl⟩ (fun t y=> ?_) (fun g h=>⟨h,rfl⟩) (QV w) (fun _ _ _=>rfl) (fun g v=> .inl v) fun t y g j=> ?_⟩
 ·rw[Qd] at m
  by_cases b:t=p
  ·rw[if_pos b] at m
   cases m
   rw[b]
   refine ⟨if_pos rfl, ?_⟩
   rw[F]; exact h3
  ·rw[if_neg b,Qd] at m
   by_cases i:t=q
   ·rw[if_pos i] at m
    cases m
    show Own (.sl E .vl) w (k.f t) [k.h t] vs
    rw[i,S,T q K]
    exact h2
   ·rw[if_neg i] at m
    refine (r.cx.en t x m).mono (fun Y W ha=> ?_) (fun g h=>⟨h,rfl⟩) (T t b) (O t b i) fun _ _=>rfl
    have Z:Y≠p:=fun h=>B.en t x m (h▸W)
    rcases l Y ha with h | ⟨_,h⟩
    ·exact absurd h Z
    ·exact ⟨h,T Y Z⟩
 ·rcases l t y with b | ⟨b,n⟩
  ·rcases l M L with i | ⟨i,U⟩
   ·exact hn (b.trans i.symm)
   ·rw[b,F] at j; exact H M i U g u j
  ·rcases l M L with i | ⟨i,U⟩
   ·rw[i,F] at u; exact H t b n g j u
   ·exact r.cx.dj t M n U hn g (z t b g j) (z M i g u)
 ·rcases l t y with b | ⟨b,n⟩
  ·rw[b,F]; exact n2
  ·by_cases i:t=q
   ·rw[i,S]; exact n1
   ·rw[O t b i]; exact r.cx.nd t n
 ·rcases l t y with b | ⟨b,n⟩
  ·rw[b,F] at j; exact r.cx.no q G g (X g j) v
  ·exact r.cx.no t n g (z t b g j) v
 ·rcases l t y with b | ⟨b,n⟩
  ·rw[b]; exact .inr ⟨B,hk⟩
  ·exact .inl ⟨n,T t b,fun _=>rfl⟩
 ·rcases l t y with b | ⟨b,n⟩
  ·rw[b,F] at j; exact .inr ⟨q,G,X g j⟩
  ·exact .inr ⟨t,n,z t b g j⟩
theorem AC.poolO {q:Nat}(p:Nat){E E':TypeId}{e:Ty}{xs:List (List e.Den)}(i:s.tab.ent q=some (.arr E (.sl E' e) xs))(b:Fresh s p)(j:A.k0≤p)
 (k:∀(vs:List Hdr) (f:Hdr→List e.Den),vs.map f=xs→AC A P c Q ⟨s.tm,(p,some (.pl true (.sl E' e) vs f)) :: (q,some (.arr E .vl vs)) :: s.tab⟩):AC A P c Q s:=fun a w r=>by
 obtain ⟨vs,f,h,l⟩:=R.poolO p i b j r
 exact k vs f h a w l
theorem AL.poolO {ops:Array Oper}{l:List Oper}{q:Nat}(p:Nat){E E':TypeId}{e:Ty}{xs:List (List e.Den)}(i:s.tab.ent q=some (.arr E (.sl E' e) xs))(b:Fresh s p)(j:A.k0≤p)
 (k:∀(vs:List Hdr) (f:Hdr→List e.Den),vs.map f=xs→AL A P ops l Q ⟨s.tm,(p,some (.pl true (.sl E' e) vs f)) :: (q,some (.arr E .vl vs)) :: s.tab⟩):AL A P ops l Q s:=fun a w r=>by
 obtain ⟨vs,f,h,m⟩:=R.poolO p i b j r
 exact k vs f h a w m
theorem Hl {x:Operand}{p:Nat}{E:TypeId}{e:Ty}{vs:List Hdr}{f:Hdr→List e.Den}{v:Hdr}(o:Evl A s x (.dat .vl v))(h:s.tab.ent p=some (.pl true (.sl E e) vs f))(hv:v∈vs):EvB A s x (false,[.dat (.sl E e) (f v)]):=fun b a w r=>by
 obtain ⟨_,l⟩:=r.cx.en p _ h
 have j:Rd b.N .vl w [a.eval x] v:=o b a w r
 have k:[a.eval x]=[hdV v]:=j.rep
 obtain ⟨i,q,t⟩:=K8 l v hv
 refine ⟨_,rfl, ?_⟩
 have m:Own (.sl E e) w i [a.eval x] (f v):=by rw[k]; exact q
 exact m.rd fun g n=>r.cx.lt ⟨_,h⟩ g (t g n)
theorem VW {q p:Nat}{E E':TypeId}{e:Ty}{zs vs:List Hdr}{f:Hdr→List e.Den}(I:s.tab.ent q=some (.arr E .vl zs))(W:s.tab.ent p=some (.pl true (.sl E' e) vs f))(hz:∃l:List Hdr,l.Perm zs∧l.Sublist vs):
 Wk A s ⟨s.tm,(q,some (.arr E (.sl E' e) (zs.map f))) :: (p,none) :: s.tab⟩:=fun a w r=>by
 obtain ⟨v,r⟩:=r
 obtain ⟨l,Z,a0⟩:=hz
 have X:s.tab.al q:=⟨_,I⟩
 have o:s.tab.al p:=⟨_,W⟩
 have G:q≠p:=fun h=>by rw[h,W] at I; cases I
 have hO:Own (.sl E .vl) w (v.f q) [v.h q] zs:=r.cx.en q _ I
 obtain ⟨_,h3⟩:=r.cx.en p _ W
 obtain ⟨fa,m1,m2⟩:=QfA a0 h3
 obtain ⟨D,m3,m4⟩:=Qhc Z m2
 have mb:∀g∈D,g∈v.f p:=fun g j=>m1.subset (m3.mem_iff.2 j)
 have nb:D.Nodup:=(m3.nodup_iff).1 (m1.nodup (r.cx.nd p o))
 have k:∀t,Tab.al ((q,some (.arr E (.sl E' e) (zs.map f))) :: (p,none) :: s.tab) t→t≠p∧s.tab.al t:=fun t ⟨x,i⟩=>by
  rw[Qd] at i
  by_cases b:t=q
  ·rw[b]; exact ⟨G,X⟩
  ·rw[if_neg b,Qd] at i
   by_cases m:t=p
   ·rw[if_pos m] at i; cases i
   ·rw[if_neg m] at i; exact ⟨m,_,i⟩
 let n:Gh:=⟨v.h,fun t=>if t=q then v.f q++D else v.f t,v.N⟩
 have O:n.f q=v.f q++D:=if_pos rfl
 have M:∀t,t≠q→n.f t=v.f t:=fun t b=>if_neg b
 have C:∀t,s.tab.al t→t≠p→∀g∈n.f t,g∈v.f t∨(t=q∧g∈v.f p):=fun t _ _ g j=>by
  by_cases b:t=q
  ·rw[b,O] at j
   rcases aG.1 j with j | j
   ·rw[b]; exact .inl j
   ·exact .inr ⟨b,mb g j⟩
  ·rw[M t b] at j; exact .inl j
 refine ⟨n,r.step ⟨fun t x i=> ?_,fun t J B Y hn g j V=> ?_,fun t B=> ?_,fun t B g j z=> ?_,r.cx.nl⟩ (fun t B=> .inl ⟨(k t B).2,rfl,fun _=>rfl⟩) (fun g h=>⟨h,rfl⟩) (QV w) (fun _ _ _=>rfl) (fun g z=> .inl z) fun t B g j=> ?_⟩
 ·rw[Qd] at i
  by_cases b:t=q
  ·rw[if_pos b] at i
   cases i
   show Own (.sl E (.sl E' e)) w (n.f t) [n.h t] (zs.map f)
   rw[b,O]
   rcases hO with ⟨R,S,T⟩ | ⟨g,L,F,fps,R,S,T,g4,g5,g6,g7⟩
   ·subst T
    have:D=[]:=m4.1
    exact .inl ⟨by rw[R,this]; rfl,S,rfl⟩
   ·obtain ⟨k1,k2⟩:=QfB g7
    refine .inr ⟨g,L,F,D,by rw[R,k1]; rfl,by rw[aB]; exact S,T,by rw[aB]; exact g4,g5,g6, ?_⟩
    have:F.toList.take ((zs.map f).length*Ty.wd (.sl E' e))=zs.map hdV:=by rw[aB]; exact k2
    rw[this]
    exact m4
  ·rw[if_neg b,Qd] at i
   by_cases m:t=p
   ·rw[if_pos m] at i; cases i
   ·rw[if_neg m] at i
    exact (r.cx.en t x i).mono (fun r' _ ha=>⟨(k r' ha).2,rfl⟩) (fun g h=>⟨h,rfl⟩) rfl (M t b) fun _ _=>rfl
 ·obtain ⟨m,u⟩:=k t B
  obtain ⟨b,K⟩:=k J Y
  rcases C t u m g j with h | ⟨h0,h⟩ <;> rcases C J K b g V with H | ⟨U,H⟩
  ·exact r.cx.dj t J u K hn g h H
  ·exact r.cx.dj t p u o m g h H
  ·exact r.cx.dj J p K o b g H h
  ·exact hn (h0.trans U.symm)
 ·obtain ⟨m,u⟩:=k t B
  by_cases b:t=q
  ·rw[b,O,aT]
   exact ⟨r.cx.nd q X,nb,fun x i y hy e=>r.cx.dj q p X o G x i (mb x (e▸hy))⟩
  ·rw[M t b]; exact r.cx.nd t u
 ·obtain ⟨m,u⟩:=k t B
  rcases C t u m g j with h | ⟨_,h⟩
  ·exact r.cx.no t u g h z
  ·exact r.cx.no p o g h z
 ·obtain ⟨m,u⟩:=k t B
  rcases C t u m g j with h | ⟨_,h⟩
  ·exact .inr ⟨t,u,h⟩
  ·exact .inr ⟨p,o,h⟩
theorem R.poolJ {p p2:Nat}{E:TypeId}{e:Ty}{vs n:List Hdr}{f H:Hdr→List e.Den}{a:Act}{w:World}(hp:s.tab.ent p=some (.pl true (.sl E e) vs f))(G:s.tab.ent p2=some (.pl true (.sl E e) n H))(hb:Nat.beq p p2=false)(r:R A s a w):
 ∃g:Hdr→List e.Den,(∀v∈vs,g v=f v)∧(∀v∈n,g v=H v)∧R A ⟨s.tm,(p,some (.pl true (.sl E e) (vs++n) g)) :: (p2,none) :: s.tab⟩ a w:=by
 classical
 obtain ⟨o,r⟩:=r
 have F:p≠p2:=fun h=>by rw[h,dq] at hb; cases hb
 have D:s.tab.al p:=⟨_,hp⟩
 have l:s.tab.al p2:=⟨_,G⟩
 obtain ⟨n1,Y⟩:=r.cx.en p _ hp
 obtain ⟨n2,Z⟩:=r.cx.en p2 _ G
 let g:Hdr→List e.Den:=fun v=>if v∈vs then f v else H v
 have W:∀v∈vs,g v=f v:=fun v T=>if_pos T
 have X:∀v∈n,g v=H v:=fun v T=>by
  by_cases h:v∈vs
  ·obtain ⟨fv,k1,_⟩:=K8 Y v h
   obtain ⟨a0,U,_⟩:=K8 Z v T
   exact (if_pos h).trans (Qa2 k1.rep U.rep)
  ·exact if_neg h
 have j:∀t,Tab.al ((p,some (.pl true (.sl E e) (vs++n) g)) :: (p2,none) :: s.tab) t→t≠p2∧s.tab.al t:=fun t ⟨x,i⟩=>by
  rw[Qd] at i
  by_cases b:t=p
  ·rw[b]; exact ⟨F,D⟩
  ·rw[if_neg b,Qd] at i
   by_cases m:t=p2
   ·rw[if_pos m] at i; cases i
   ·rw[if_neg m] at i; exact ⟨m,_,i⟩
 let q:Gh:=⟨o.h,fun t=>if t=p then o.f p++o.f p2 else o.f t,o.N⟩
 have L:q.f p=o.f p++o.f p2:=if_pos rfl
 have K:∀t,t≠p→q.f t=o.f t:=fun t b=>if_neg b
 have B:∀t,∀x∈q.f t,x∈o.f t∨(t=p∧x∈o.f p2):=fun t x k=>by
  by_cases b:t=p
  ·rw[b,L] at k
   rcases aG.1 k with k | k
   ·rw[b]; exact .inl k
   ·exact .inr ⟨b,k⟩
  ·rw[K t b] at k; exact .inl k
 refine ⟨g,W,X,q,r.step ⟨fun t x i=> ?_,fun t J z S hn x k O=> ?_,fun t z=> ?_,fun t z x k u=> ?_,r.cx.nl⟩ (fun t z=> .inl ⟨(j t z).2,rfl,fun _=>rfl⟩) (fun x h=>⟨h,rfl⟩) (QV w) (fun _ _ _=>rfl) (fun x u=> .inl u) fun t z x k=> ?_⟩
 ·rw[Qd] at i
  by_cases b:t=p
  ·rw[if_pos b] at i
   cases i
   rw[b]
   refine ⟨n1, ?_⟩
   rw[L]
   exact Qj0 Y Z W X
  ·rw[if_neg b,Qd] at i
   by_cases m:t=p2
   ·rw[if_pos m] at i; cases i
   ·rw[if_neg m] at i
    exact (r.cx.en t x i).mono (fun r' _ ha=>⟨(j r' ha).2,rfl⟩) (fun x h=>⟨h,rfl⟩) rfl (K t b) fun _ _=>rfl
 ·obtain ⟨m,C⟩:=j t z
  obtain ⟨b,V⟩:=j J S
  rcases B t x k with h | ⟨h0,h⟩ <;> rcases B J x O with I | ⟨M,I⟩
  ·exact r.cx.dj t J C V hn x h I
  ·exact r.cx.dj t p2 C l m x h I
  ·exact r.cx.dj J p2 V l b x I h
  ·exact hn (h0.trans M.symm)
 ·obtain ⟨m,C⟩:=j t z
  by_cases b:t=p
  ·rw[b,L,aT]
   exact ⟨r.cx.nd p D,r.cx.nd p2 l,fun x i y hy e=>r.cx.dj p p2 D l F x i (e▸hy)⟩
  ·rw[K t b]; exact r.cx.nd t C
 ·obtain ⟨m,C⟩:=j t z
  rcases B t x k with h | ⟨_,h⟩
  ·exact r.cx.no t C x h u
  ·exact r.cx.no p2 l x h u
 ·obtain ⟨m,C⟩:=j t z
  rcases B t x k with h | ⟨_,h⟩
  ·exact .inr ⟨t,C,h⟩
  ·exact .inr ⟨p2,l,h⟩
theorem AL.poolJ {ops:Array Oper}{l:List Oper}{p p2:Nat}{E:TypeId}{e:Ty}{vs b:List Hdr}{f i:Hdr→List e.Den}(n:s.tab.ent p=some (.pl true (.sl E e) vs f))(h:s.tab.ent p2=some (.pl true (.sl E e) b i))(hb:Nat.beq p p2=false)
 (k:∀g:Hdr→List e.Den,(∀v∈vs,g v=f v)→(∀v∈b,g v=i v)→AL A P ops l Q ⟨s.tm,(p,some (.pl true (.sl E e) (vs++b) g)) :: (p2,none) :: s.tab⟩):AL A P ops l Q s:=fun a w r=>by
 obtain ⟨g,j,m,o⟩:=R.poolJ n h hb r
 exact k g j m a w o
theorem AC.poolJ {p p2:Nat}{E:TypeId}{e:Ty}{vs b:List Hdr}{f i:Hdr→List e.Den}(m:s.tab.ent p=some (.pl true (.sl E e) vs f))(h:s.tab.ent p2=some (.pl true (.sl E e) b i))(hb:Nat.beq p p2=false)
 (k:∀g:Hdr→List e.Den,(∀v∈vs,g v=f v)→(∀v∈b,g v=i v)→AC A P c Q ⟨s.tm,(p,some (.pl true (.sl E e) (vs++b) g)) :: (p2,none) :: s.tab⟩):AC A P c Q s:=fun a w r=>by
 obtain ⟨g,j,l,n⟩:=R.poolJ m h hb r
 exact k g j l a w n
end
section
variable {A:Amb}{P:Program}{s:St}{f:FuncId}{xs:List Operand}{tys:Array TypeId}{args:List (Bool×List LV)}{d:Nat}{ty:TypeId}{pos:String}{af:Array Edge}{g:Option (Nat×Bool)}{pv:PV}
theorem QcP {p:Operand}(D:FC P f args [] 0 (Za pv))(z:Qg P f)(h0:Evl A s p (.clo f []))(C:EvLB A s xs args)(t:pv.tags=[])(F:pv.fl=true)(G:Nat.blt d A.n=true):
 Does A P ⟨some d, .call ⟨.value p,xs.toArray,tys⟩,ty,pos,af,g⟩ s (s.put d pv):=fun a w K Q r B=>by
 obtain ⟨k,r⟩:=r
 have L:a.eval p= .func (.func f) #[] #[]:=h0 k a w r (by intro q i; cases i)
 have J:=C.cms r
 have m:Yk pv []=true:=by simp[Yk,t,ZD]
 refine Qf3 (cs:=[]) z rfl L (by
  rw[bG]
  refine Calls.mono (D ⟨k.h,k.f,fun g=>g < w.heap.size⟩ w _ (Vt ZE _ w fun g b=>b) J) fun e S o=> ?_
  obtain ⟨v,M,T,y,rfl,⟨rfl,rfl⟩,x,H,l,_⟩:=o
  obtain ⟨c1,c2⟩:=Hu m
  have j:∀q,Tab.al [] q→Fresh s (A.k0+q):=fun q i=>absurd i (ZE q)
  have R:=r.after A.k0 j (aL _) (x.fl rfl) l.gw (fun g b=>l.kp g b fun q i=>absurd i (ZE q)) (fun q i g b=>by
   rcases l.ox q i g b with h | ⟨O,h,_⟩
   ·exact h
   ·exact absurd h (ZE O)) (fun g b=>b.elim) fun q e o r I=> .inl (c2 q e o r I)
  have u:=QhL (gh2:=k) j c1 R (H.fl (N:=fun _=>False) F) (fun g b=>b.elim) G
  rw[St.back,PV.ren_id t] at u
  exact B _ _ u)
end
end Go.Proofs.YtndabgcpnmeeoaaGreat
namespace Go.Proofs.YtndabgcpnmeeoaaGreat
set_option maxHeartbeats 4000000
set_option maxRecDepth 100000
open Go.RowKit
def ltP:List Int→List Int→Bool
 | [],[]=>false
 | [],_ :: _=>true
 | _ :: _,[]=>false
 | x :: a,y :: b=>if x < y then true else if y < x then false else ltP a b
def Qga (x y:Int):Int:=if x < y then -1 else if y < x then 1 else 0
def Jy:List Int→List Int→Int
 | [],[]=>0
 | [],_ :: _=> -1
 | _ :: _,[]=>1
 | x :: a,y :: b=>if Qga x y=0 then Jy a b else Qga x y
theorem HG:∀a,ltP a a=false
 | []=>rfl
 | x :: a=>by simp[ltP,HG a]
theorem Qfq:∀a b c,ltP a b=true→ltP b c=true→ltP a c=true
 | [],[],_,h,_=>by cases h
 | [],_ :: _,[],_,h=>by cases h
 | [],_ :: _,_ :: _,_,_=>rfl
 | _ :: _,[],_,h,_=>by cases h
 | _ :: _,_ :: _,[],_,h=>by cases h
 | x :: a,y :: b,z :: c,h1,h2=>by
  unfold ltP at h1 h2 ⊢
  split at h1
  ·split at h2
   ·rw[if_pos (by omega)]
   ·split at h2
    ·cases h2
    ·rw[if_pos (by omega)]
  ·split at h1
   ·cases h1
   ·split at h2
    ·rw[if_pos (by omega)]
    ·split at h2
     ·cases h2
     ·rw[if_neg (by omega),if_neg (by omega)]; exact Qfq a b c h1 h2
theorem QbB:∀a b,ltP a b=true∨a=b∨ltP b a=true
 | [],[]=> .inr (.inl rfl)
 | [],_ :: _=> .inl rfl
 | _ :: _,[]=> .inr (.inr rfl)
 | x :: a,y :: b=>by
  unfold ltP
  by_cases c:x < y
  ·exact .inl (if_pos c)
  ·by_cases d:y < x
   ·exact .inr (.inr (if_pos d))
   ·have e:x=y:=by omega
    rw[if_neg c,if_neg d,if_neg d,if_neg c]
    rcases QbB a b with h | h | h
    ·exact .inl h
    ·exact .inr (.inl (by rw[e,h]))
    ·exact .inr (.inr h)
theorem J7:TO ltP:=⟨HG,Qfq,QbB⟩
theorem QdB:∀a b,(Jy a b < 0)↔ltP a b=true
 | [],[]=>by simp[Jy,ltP]
 | [],_ :: _=>by simp[Jy,ltP]
 | _ :: _,[]=>by simp[Jy,ltP]
 | x :: a,y :: b=>by
  unfold Jy ltP Qga
  by_cases c:x < y
  ·simp[c]
  ·by_cases d:y < x
   ·simp[c,d]
   ·simp[c,d,QdB a b]
theorem Qo0 {a b:List Int}{k:Nat}{x y:Int}(g:a[k]? =some x)(h:b[k]? =some y):Jy (a.drop k) (b.drop k)=if Qga x y=0 then Jy (a.drop (k+1)) (b.drop (k+1)) else Qga x y:=by
 obtain ⟨e,c⟩:=ah.1 g
 obtain ⟨f,d⟩:=ah.1 h
 rw[bU e,bU f,c,d]; rfl
theorem QvS {a b:List Int}{k:Nat}(h:k < a.length)(hb:b.length≤k):Jy (a.drop k) (b.drop k)=1:=by
 rw[bU h,bz hb]; rfl
theorem QvR {a b:List Int}{k:Nat}(h:a.length≤k):Jy (a.drop k) (b.drop k)=if k < b.length then -1 else 0:=by
 rw[bz h]
 by_cases c:k < b.length
 ·rw[bU c,if_pos c]; rfl
 ·rw[bz (by omega),if_neg c]; rfl
theorem Qg6 (x:Int)(w:World):Calls Tryz.prog 374 #[.int .i64 x] w fun e w'=>e= .returned (.bool false)∧w'=w:=by
 go_enter Tryz.func374,Tryz.ntmps374
 go_wp2
 go_ret
 exact ⟨by simp,rfl⟩
theorem Qrf (x y:Int)(w:World):Calls Tryz.prog 250 #[.int .i64 x, .int .i64 y] w fun e w'=>e= .returned (.int .i64 (Qga x y))∧w'=w:=by
 go_enter Tryz.func250,Tryz.ntmps250
 go_wp2_with fail
 refine (Qg6 _ _).mono ?_
 rintro e g ⟨rfl,rfl⟩
 go_wp2_with fail
 refine (Qg6 _ _).mono ?_
 rintro e g ⟨rfl,rfl⟩
 by_cases a:x < y
 ·have f:=aY a
  go_wp2
  go_ret
  exact ⟨by simp[Qga,a],rfl⟩
 ·have f:=aQ a
  by_cases b:y < x
  ·have c:=aY b
   go_wp2
   go_ret
   exact ⟨by simp[Qga,a,b],rfl⟩
  ·have d:x=y:=by omega
   have c:=aQ b
   go_wp2
   go_ret
   exact ⟨by simp[Qga,d],rfl⟩
theorem QcY (u v:Value)(a b:List Int)(w:World)(t:Rep Qm w [u] a)(hb:Rep Qm w [v] b):Calls Tryz.prog 115 #[u,v] w fun e w'=>e= .returned (.int .i64 (Jy a b))∧w'=w:=by
 obtain ⟨A,c,rfl,P,F⟩:=t.slv
 obtain ⟨B,d,rfl,J,G⟩:=hb.slv
 have Q:a.length≤9223372036854775807:=by unfold maxLen at F; omega
 have K:b.length≤9223372036854775807:=by unfold maxLen at G; omega
 go_enter Tryz.func115,Tryz.ntmps115
 go_wp2
 go_loopw [11] (fun i L=>∃k:Nat,k≤a.length∧k≤b.length∧i= .int .i64 k∧Jy a b=Jy (a.drop k) (b.drop k)∧L=w) (fun i _=>a.length - (intOf i).toNat)
 case atStart=>exact ⟨0,aP _,aP _,rfl,rfl,rfl⟩
 case round=>
  obtain ⟨k,O,I,rfl,l,rfl⟩:=hrel
  have j:=hid l
  clear l
  by_cases h:k < a.length
  ·obtain ⟨M,R,T,rfl,z,c1⟩:=t.at1 rfl (ap h)
   have D:=hid (ap h)
   generalize r:a[k]=x at*
   clear r
   obtain ⟨rfl, -⟩:=z.int_
   clear z
   by_cases f:k < b.length
   ·obtain ⟨N,S,U,rfl,C,c2⟩:=hb.at1 rfl (ap f)
    have E:=hid (ap f)
    generalize s:b[k]=y at*
    clear s
    obtain ⟨rfl, -⟩:=C.int_
    clear C
    have q:decide ((b.length:Int)≤(k:Int))=false:=aQ (by omega)
    go_wp2_with fail
    refine (Qrf _ _ _).mono ?_
    rintro e V ⟨rfl,rfl⟩
    have g:=hid (Qo0 D.out E.out)
    by_cases m:Qga x y=0
    ·have p:=aY m
     have n:=hid m
     go_wp2
     go_roundw
     case rel=>exact ⟨k+1,by omega,by omega,by go_num,by rw[j.out,g.out,if_pos n.out],by first | rfl | trivial⟩
     case measure=>simp[intOf]; omega
    ·have p:=aQ m
     have n:=hid m
     go_wp2
     go_ret
     exact ⟨by rw[j.out,g.out,if_neg n.out] <;> rfl,rfl⟩
   ·have q:decide ((b.length:Int)≤(k:Int))=true:=aY (by omega)
    have g:=hid (QvS (b:=b) h (by omega))
    go_wp2
    go_ret
    exact ⟨by rw[j.out,g.out] <;> rfl,rfl⟩
  ·have g:=hid (QvR (b:=b) (k:=k) (a:=a) (by omega))
   have H:k=a.length:=by omega
   by_cases f:k < b.length
   ·have o:decide ((a.length:Int) < (b.length:Int))=true:=aY (by omega)
    go_wp2
    go_ret
    exact ⟨by rw[j.out,g.out,if_pos f] <;> rfl,rfl⟩
   ·have o:decide ((a.length:Int) < (b.length:Int))=false:=aQ (by omega)
    go_wp2
    go_ret
    exact ⟨by rw[j.out,g.out,if_neg f] <;> rfl,rfl⟩
end Go.Proofs.YtndabgcpnmeeoaaGreat
namespace Go.Proofs.YtndabgcpnmeeoaaGreat
set_option maxHeartbeats 4000000
set_option maxRecDepth 100000
open Go.RowKit Go.Sort Go.Shelf Go.Lib
def ZQ (xs:List (List Int)):List (List Int):=xs.mergeSort fun a b=> !ltP b a
theorem Xo (xs:List (List Int)):(ZQ xs).Perm xs:=List.mergeSort_perm ..
theorem V1 (xs:List (List Int)):(ZQ xs).length=xs.length:=(Xo xs).length_eq
theorem Qr4 {a b:List Int}(h:ltP a b=true):ltP b a=false:=by
 cases c:ltP b a with
 | false=>rfl
 | true=>have:=Qfq a b a h c; rw[HG] at this; cases this
theorem Qr0 (a b c:List Int)(f:(!ltP b a)=true)(e:(!ltP c b)=true):(!ltP c a)=true:=by
 simp only[bQ] at*
 cases h:ltP c a with
 | false=>rfl
 | true=>
  rcases QbB a b with d | d | d
  ·have:=Qfq c a b h d; rw[e] at this; cases this
  ·subst d; rw[e] at h; cases h
  ·rw[f] at d; cases d
theorem Quq (a b:List Int):((!ltP b a)||(!ltP a b))=true:=by
 cases h:ltP b a with
 | false=>rfl
 | true=>rw[Qr4 h]; rfl
theorem VN (xs:List (List Int)):(ZQ xs).Pairwise fun a b=>ltP b a=false:=by
 have:=List.pairwise_mergeSort (le:=fun a b=> !ltP b a) Qr0 Quq xs
 exact this.imp fun h=>by simpa using h
theorem QcK:∀{a b:List (List Int)},a.Perm b→a.Pairwise (fun x y=>ltP y x=false)→b.Pairwise (fun x y=>ltP y x=false)→a=b
 | [],b,hp,_,_=>(List.nil_perm.1 hp).symm
 | x :: a,b,hp,ha,hb=>by
  cases b with
  | nil=>exact absurd (List.perm_nil.1 hp) (by simp)
  | cons y b=>
   obtain ⟨f,i⟩:=bm.1 ha
   obtain ⟨j,k⟩:=bm.1 hb
   have e:x=y:=by
    rcases aE.1 (hp.mem_iff.1 (aw ..):x∈y :: b) with h | h
    ·exact h
    ·rcases aE.1 (hp.mem_iff.2 (aw ..):y∈x :: a) with d | d
     ·exact d.symm
     ·have l:=j x h
      have m:=f y d
      rcases QbB x y with c | c | c
      ·rw[l] at c; cases c
      ·exact c
      ·rw[m] at c; cases c
   subst e
   rw[QcK ((List.perm_cons x).1 hp) i k]
theorem Qs7 (xs:List (List Int)):Yi (ZQ xs)=ofG ltP xs:=Qnr J7 (VN xs) fun _=>(Xo xs).mem_iff
section
variable {α:Type}[Inhabited α]{enc:α→Value}{w:World}{g n:Nat}{os:Array Obj}
theorem QrT {cur:Array Value}{e:TypeId}{a:List α}(hb:w.heap[g]? =some (.cells cur e (0,0)))(f:cur.toList.take a.length=a.map enc):Holds enc w g 0 a.toArray:=by
 intro j d
 have b:j < a.length:=by simpa using d
 refine ⟨?_,by simp[World.frozen?,hb]⟩
 have c:(cur.toList.take a.length)[j]? =(a.map enc)[j]? :=by rw[f]
 rw[List.getElem?_take_of_lt b] at c
 simp only[World.cell?,hb,cd]
 simp only[Option.isSome_none,bJ,if_false]
 rw[← Array.getElem?_toList,c]
 simp[b]
theorem Qvw {cur:Array Value}{e:TypeId}{a:Nat×Nat}(d:Array α)(hb:w.heap[g]? =some (.cells cur e a)):(sortWorld enc w g 0 n d os).heap[g]? =some (.cells (putCells enc 0 d cur) e a):=by
 have b:g < w.heap.size:=(bA.1 hb).1
 unfold sortWorld
 rw[heap_grow_old _ _ (by simpa using b)]
 simp[putRow,mapBlock,Sort.ahead,Array.getElem?_modify,hb,onCells]
theorem Hf (d:Array α){k:Nat}(b:k < w.heap.size)(a:k≠g):(sortWorld enc w g 0 n d os).heap[k]? =w.heap[k]? :=by
 unfold sortWorld
 rw[heap_grow_old _ _ (by simpa using b)]
 have:g≠k:=fun e=>a e.symm
 simp[putRow,mapBlock,Sort.ahead,Array.getElem?_modify,this]
theorem QiE (d:Array α):Grw w (sortWorld enc w g 0 n d os):=⟨rfl,rfl,rfl,by unfold sortWorld; simp[grow,putRow,mapBlock,Sort.ahead]⟩
theorem Qhx (cur:Array Value)(ts:List α)(h:ts.length≤cur.size):(putCells enc 0 ts.toArray cur).toList.take ts.length=ts.map enc:=by
 apply bF
 intro j
 by_cases a:j < ts.length
 ·rw[List.getElem?_take_of_lt a,Array.getElem?_toList]
  simp[putCells,a,show j < cur.size by omega]
 ·rw[List.getElem?_take_eq_none (by omega),bp (by simp; omega)]
end
theorem QkG {e:Ty}{w w':World}{fp:List Nat}{cs:List Value}{xs:List e.Den}(c:∀g∈fp,w'.heap[g]? =w.heap[g]?)(h:OwnL (Own e w) fp cs xs):OwnL (Own e w') fp cs xs:=
 OwnL.mono h fun _ _ _ a d=>d.keep fun g b=>c g (a g b)
def QkJ (P:Program)(f g:FuncId):Prop:=∀(α:Type) [Inhabited α] (enc:α→Value),(∀x,(enc x).oneCell'=true)→∀cf:α→α→Int,SWO (ltOf cf)→∀(blk cap:Nat) (d:Array α) (w:World),CmpLays1 P g #[] enc cf blk 0 d.size w→Holds enc w blk 0 d→
 blk < w.heap.size→d.size < 4611686018427387904→Calls P f #[.slice (some ⟨blk,0,none⟩) d.size cap, .func (.func g) #[] #[]] w fun e w'=>e= .returned (.tuple #[])∧∃d' n os,PermIn 0 d.size d d'∧SortedIn (ltOf cf) 0 d.size d'∧w'=sortWorld enc w blk 0 n d' os
def QbZ (P:Program)(f:FuncId):Prop:=∀(p:Option Addr) (cap:Nat) (fv:Value) (w:World),Calls P f #[.slice p 0 cap,fv] w fun e w'=>e= .returned (.tuple #[])∧w'=w
def QiU (P:Program)(g:FuncId)(E:TypeId):Prop:=∀(u v:Value) (a b:List Int) (w:World),Rep (.sl E .int) w [u] a→Rep (.sl E .int) w [v] b→Calls P g #[u,v] w fun e w'=>e= .returned (.int .i64 (Jy a b))∧w'=w
theorem Qym {α:Type}(f:α→List Int):SWO (ltOf fun x y:α=>Jy (f x) (f y)):=by
 have e:∀x y:α,ltOf (fun x y:α=>Jy (f x) (f y)) x y=ltP (f x) (f y):=fun x y=>by
  unfold ltOf
  rw[cF,aS,QdB]
 refine ⟨fun x=>by rw[e]; exact HG _,fun x y z a b=>by rw[e] at*; exact Qfq _ _ _ a b,fun x y z a b=> ?_⟩
 rw[e] at*
 have:=Qr0 (f z) (f y) (f x) (by rw[b]; rfl) (by rw[a]; rfl)
 simpa using this
theorem Qqx {P:Program}{f g:FuncId}{E E':TypeId}(hS:QkJ P f g)(hN:QbZ P f)(hC:QiU P g E')(xs:List (List Int))(hl:xs.length≤1000000000):
 FC P f [(false,[.ref 0]),(false,[.clo g []])] [(0,some (.arr E (.sl E' .int) xs))] 1 (Is (.tup []) [(0,some (.arr E (.sl E' .int) (ZQ xs)))]):=fun A w vs Q ha=>by
 obtain ⟨v,c6,rfl,⟨l,a1,T⟩,v2,c7,rfl,⟨l2,a0,h2⟩,rfl⟩:=ha
 simp only[aD,and_true] at a1 a0
 subst a1 a0
 have hv:v=A.h 0:=T ⟨_,rfl⟩
 have c3:v2= .func (.func g) #[] #[]:=h2 (by simp)
 subst hv c3
 have hO:Own (.sl E (.sl E' .int)) w (A.f 0) [A.h 0] xs:=Q.en 0 _ rfl
 have B:∀(y:List (List Int)) q,Tab.al [(0,some (Ent.arr E (.sl E' .int) y))] q→q=0:=fun y q ⟨e,u⟩=>by
  rw[Qd] at u
  split at u
  ·assumption
  ·cases u
 have C:xs=[]→∀p o,A.h 0= .slice p 0 o→Calls P f [A.h 0, .func (.func g) #[] #[]].toArray w fun e O=>∃v pv R s,e= .returned v∧Is (.tup []) [(0,some (.arr E (.sl E' .int) (ZQ xs)))] pv R∧Cx R s O∧PVR R.al s O pv v∧Fr [(0,some (.arr E (.sl E' .int) xs))] R A s w O∧∀q,q < 1→R.al q→s.h q=A.h q:=fun J p o hp=>by
  subst J
  rw[hp]
  refine Calls.mono (hN p o _ w) fun e O u=> ?_
  obtain ⟨rfl,rfl⟩:=u
  have b8:ZQ []=[]:=bu (V1 [])
  rw[b8]
  have b2:Cx [(0,some (Ent.arr E (.sl E' .int) []))] A O:=Q
  exact ⟨_,_,_,A,rfl,⟨rfl,rfl⟩,b2,⟨[],rfl,rfl⟩,⟨QV _,fun g _ _=>rfl,fun g Y=> .inl Y,fun q D g Y=> .inr ⟨q,D,Y⟩⟩,fun q _ _=>rfl⟩
 rcases hO with ⟨X,K,J⟩ | ⟨b,o,r,fps,X,K,hb,hn,U,a6,hL⟩
 ·simp only[aD,and_true] at K
  exact C J _ _ K
 ·simp only[aD,and_true] at K
  obtain ⟨k,k1,k2⟩:=QcC hL
  rw[k1,← k2] at hL
  have c:k.length=xs.length:=by rw[← k2,aB]
  cases k with
  | nil=>
   have J:xs=[]:=by rw[← k2]; rfl
   exact C J _ _ (by rw[K,J]; rfl)
  | cons h0 c2=>
   generalize b4:h0 :: c2=k at*
   have b7:h0∈k:=by rw[← b4]; exact aw ..
   let α:={v:Hdr // v∈k}
   letI:Inhabited α:=⟨⟨h0,b7⟩⟩
   let F:Hdr→List Int:=rdF E' .int w
   let enc:α→Value:=fun x=>hdV x.1
   have Y:b < w.heap.size:=(bA.1 hb).1
   have a4:=Q.nd 0 ⟨_,rfl⟩
   rw[X] at a4
   obtain ⟨L,c0⟩:=bj.1 a4
   have a2:∀g∈fps,g < w.heap.size:=fun g a=>Q.lt (q:=0) ⟨_,rfl⟩ g (by rw[X]; exact ax _ a)
   have a9:k.attach.map (fun x=>hdV x.1)=k.map hdV:=by
    have:k.attach.map (fun x=>hdV x.1)=(k.attach.map Subtype.val).map hdV:=by rw[cX]; rfl
    rw[this,List.attach_map_subtype_val]
   have hH:Holds enc w b 0 k.attach.toArray:=QrT hb (by
    rw[List.length_attach,c]
    have:=k1
    simp only[Ty.wd,cr] at this
    rw[this]; exact a9.symm)
   have W:k.attach.toArray.size=xs.length:=by simp[c]
   have V:CmpLays1 P g #[] enc (fun x y=>Jy (F x.1) (F y.1)) b 0 k.attach.toArray.size w:=fun m os dk _ x y=>by
    have hr:∀z:α,Rep (.sl E' .int) (sortWorld enc w b 0 m dk os) [enc z] (F z.1):=fun z=>by
     obtain ⟨fv,o1,o2⟩:=K8 hL z.1 z.2
     exact (o1.keep fun g a=>Hf dk (a2 g (o2 g a)) fun e=>L (by rw[← e]; exact o2 g a)).rep
    refine Calls.mono (hC (enc x) (enc y) _ _ _ (hr x) (hr y)) fun e O u=> ?_
    obtain ⟨rfl,rfl⟩:=u
    exact ⟨rfl,0, #[],by rw[grow_empty]; rfl⟩
   have a8:∀x:α,(enc x).oneCell'=true:=fun x=>by cases J:x.1 <;> simp[enc,J,hdV,Value.oneCell']
   have hm:xs.length < 4611686018427387904:=by omega
   have a7:=hS α enc a8 _ (Qym fun x:α=>F x.1) b o k.attach.toArray w V hH Y (by rw[W]; exact hm)
   rw[W] at a7
   rw[K]
   refine Calls.mono a7 fun e O u=> ?_
   obtain ⟨rfl,d,n,os,⟨p1,p2,p3⟩,a5,rfl⟩:=u
   have H:k.attach.length=k.length:=List.length_attach
   have t:d.size=k.length:=by rw[p1]; exact H
   let zs:List Hdr:=d.toList.map Subtype.val
   have M:k.Perm zs:=by
    have e1:(d.extract 0 xs.length).toList=d.toList:=by rw[← c,← t]; simp
    have e2:(k.attach.toArray.extract 0 xs.length).toList=k.attach:=by
     rw[← c]
     simp only[List.extract_toArray,List.extract_eq_take_drop,Nat.sub_zero,de]
     exact aJ (Nat.le_of_eq H)
    rw[e1,e2] at p3
    have:=p3.symm.map Subtype.val
    rwa [List.attach_map_subtype_val] at this
   have c5:zs.length=xs.length:=by rw[← c]; exact M.length_eq.symm
   have c4:zs.map F=ZQ xs:=by
    refine QcK ?_ ?_ (VN xs)
    ·have:=M.symm.map F
     rw[k2] at this
     exact this.trans (Xo xs).symm
    ·rw[bX,bX]
     rw[List.pairwise_iff_getElem]
     intro i j hi hj b6
     have b5:i < d.size:=by simpa using hi
     have Z:j < d.size:=by simpa using hj
     have:=a5 i j (aP _) b6 (by rw[← c,← t]; exact Z)
     rw[dX d i b5,dX d j Z] at this
     simp only[Array.getElem_toList]
     cases a3:ltP (F d[j].1) (F d[i].1) with
     | false=>rfl
     | true=>
      have h3:=(QdB _ _).2 a3
      unfold ltOf at this
      exact absurd h3 (aa this)
   obtain ⟨S,m3,m4⟩:=Qhc M hL
   have b0:=Qvw (enc:=enc) (n:=n) (os:=os) d hb
   have b1:(putCells enc 0 d r).size=r.size:=by simp[putCells]
   let s:Gh:=⟨A.h,fun q=>if q=0 then b :: S else A.f q,A.N⟩
   have fq:s.f 0=b :: S:=rfl
   have I:∀g,g∈b :: S↔g∈A.f 0:=fun g=>by rw[X,aE,aE,m3.mem_iff]
   refine ⟨_,_,_,s,rfl,⟨rfl,rfl⟩,⟨fun q e u=> ?_,fun q q' D c1 b9=>absurd ((B _ q D).trans (B _ q' c1).symm) b9,fun q D=> ?_,fun q D G a=> ?_,fun G a=>bq (Q.nl G a) (QiE d).size⟩,⟨[],rfl,rfl⟩,
    ⟨QiE d,fun G T h2=> ?_,fun G T=> .inl T,fun q D G a=> ?_⟩,fun q _ _=>rfl⟩
   ·rw[Qd] at u
    split at u
    ·rename_i e0; subst e0; cases u
     refine .inr ⟨b,o,putCells enc 0 d r,S,rfl,by rw[V1]; exact congrArg (fun z=>[z]) K,b0,by rw[V1]; exact hn,U,by rw[b1]; exact a6, ?_⟩
     have et:(putCells enc 0 d r).toList.take ((ZQ xs).length*Ty.wd (.sl E' .int))=zs.map hdV:=by
      have b3:d.toList.length≤r.size:=by
       have:r.size=o*Ty.wd (.sl E' .int):=a6
       simp only[Ty.wd,cr] at this
       rw[da,t,c]; omega
      have:=Qhx (enc:=enc) r d.toList b3
      rw[V1,← c,← t]
      show List.take (d.size*1) _=_
      rw[cr]
      simp only[da] at this
      rw[show d.toList.toArray=d by simp] at this
      rw[this,cX]; rfl
     rw[et,← c4]
     have hk:∀g∈S,(sortWorld enc w b 0 n d os).heap[g]? =w.heap[g]? :=fun g a=>by
      have h3:g∈fps:=m3.mem_iff.2 a
      exact Hf d (a2 g h3) fun e=>L (e▸h3)
     exact QkG hk m4
    ·cases u
   ·rw[B _ q D,fq,bj]
    exact ⟨fun h=>L (m3.mem_iff.2 h),(m3.nodup_iff).1 c0⟩
   ·rw[B _ q D,fq] at a; exact Q.no 0 ⟨_,rfl⟩ G ((I G).1 a)
   ·exact Hf d T fun e0=>h2 0 ⟨_,rfl⟩ (by rw[X,e0]; exact aw ..)
   ·rw[B _ q D,fq] at a; exact .inr ⟨0,⟨_,rfl⟩,(I G).1 a⟩
def QmQ:Go.Shelf.Ren:=⟨fun | 6=>114 | 15=>249 | 14=>248 | 28=>372 | 29=>373 | 20=>364 | 21=>365 | 22=>366 | 23=>367 | 24=>368 | 25=>369 | 26=>370 | 27=>371 | 46=>467 | 47=>468 | 48=>469 | 49=>470 | 50=>471 | 57=>528 | n=>n,fun | 22=>56 | 24=>123 | 25=>172 | 3=>3 | 39=>279 | 0=>0 | 53=>406 | 55=>132 | 4=>4 | 46=>400 | 45=>399 | 50=>40 | 5=>5 | 9=>9 | 66=>465 | 70=>469 | 76=>513 | 77=>514 | n=>n,fun | n=>n⟩
theorem QsM:Go.Proofs.SlLaysF.n6 Tryz.prog QmQ:={
 mixed:=by kernel_rfl,
 f6:=⟨"slices.SortFunc[[][]int,[]int]",by decide,Tryz.func114.trans (congrArg some (by kernel_rfl))⟩,
 f14:=⟨"slices.pdqsortCmpFunc[[]int]",by decide,Tryz.func248.trans (congrArg some (by kernel_rfl))⟩,
 f15:=Tryz.func249.trans (congrArg some (by kernel_rfl)),
 f20:=⟨"slices.insertionSortCmpFunc[[]int]",by decide,Tryz.func364.trans (congrArg some (by kernel_rfl))⟩,
 f21:=⟨"slices.heapSortCmpFunc[[]int]",by decide,Tryz.func365.trans (congrArg some (by kernel_rfl))⟩,
 f22:=⟨"slices.breakPatternsCmpFunc[[]int]",by decide,Tryz.func366.trans (congrArg some (by kernel_rfl))⟩,
 f23:=⟨"slices.choosePivotCmpFunc[[]int]",by decide,Tryz.func367.trans (congrArg some (by kernel_rfl))⟩,
 f24:=⟨"slices.reverseRangeCmpFunc[[]int]",by decide,Tryz.func368.trans (congrArg some (by kernel_rfl))⟩,
 f25:=⟨"slices.partialInsertionSortCmpFunc[[]int]",by decide,Tryz.func369.trans (congrArg some (by kernel_rfl))⟩,
 f26:=⟨"slices.partitionEqualCmpFunc[[]int]",by decide,Tryz.func370.trans (congrArg some (by kernel_rfl))⟩,
 f27:=⟨"slices.partitionCmpFunc[[]int]",by decide,Tryz.func371.trans (congrArg some (by kernel_rfl))⟩,
 f28:=Tryz.func372.trans (congrArg some (by kernel_rfl)),
 f29:=Tryz.func373.trans (congrArg some (by kernel_rfl)),
 f46:=⟨"slices.siftDownCmpFunc[[]int]",by decide,Tryz.func467.trans (congrArg some (by kernel_rfl))⟩,
 f47:=Tryz.func468.trans (congrArg some (by kernel_rfl)),
 f48:=Tryz.func469.trans (congrArg some (by kernel_rfl)),
 f49:=⟨"slices.medianAdjacentCmpFunc[[]int]",by decide,Tryz.func470.trans (congrArg some (by kernel_rfl))⟩,
 f50:=⟨"slices.medianCmpFunc[[]int]",by decide,Tryz.func471.trans (congrArg some (by kernel_rfl))⟩,
 f57:=⟨"slices.order2CmpFunc[[]int]",by decide,Tryz.func528.trans (congrArg some (by kernel_rfl))⟩,
 t0:=Tryz.underlying0,
 a0:=Tryz.isAgg0,
 z0:=Tryz.sizeOf0,
 v0:=Tryz.zeroValue0,
 t3:=Tryz.underlying3,
 a3:=Tryz.isAgg3,
 z3:=Tryz.sizeOf3,
 v3:=Tryz.zeroValue3,
 t4:=Tryz.underlying4,
 a4:=Tryz.isAgg4,
 z4:=Tryz.sizeOf4,
 v4:=Tryz.zeroValue4,
 t5:=Tryz.underlying5,
 a5:=Tryz.isAgg5,
 z5:=Tryz.sizeOf5,
 v5:=Tryz.zeroValue5,
 t9:=Tryz.underlying9,
 a9:=Tryz.isAgg9,
 z9:=Tryz.sizeOf9,
 v9:=Tryz.zeroValue9,
 t22:=Tryz.underlying56,
 a22:=Tryz.isAgg56,
 z22:=Tryz.sizeOf56,
 v22:=Tryz.zeroValue56,
 a24:=Tryz.isAgg123,
 z24:=Tryz.sizeOf123,
 t25:=Tryz.underlying172,
 a25:=Tryz.isAgg172,
 z25:=Tryz.sizeOf172,
 v25:=Tryz.zeroValue172,
 t39:=Tryz.underlying279,
 a39:=Tryz.isAgg279,
 z39:=Tryz.sizeOf279,
 v39:=Tryz.zeroValue279,
 t45:=Tryz.underlying399,
 a45:=Tryz.isAgg399,
 z45:=Tryz.sizeOf399,
 v45:=Tryz.zeroValue399,
 t46:=Tryz.underlying400,
 a46:=Tryz.isAgg400,
 z46:=Tryz.sizeOf400,
 v46:=Tryz.zeroValue400,
 t50:=Tryz.underlying40,
 a50:=Tryz.isAgg40,
 z50:=Tryz.sizeOf40,
 v50:=Tryz.zeroValue40,
 t53:=Tryz.underlying406,
 a53:=Tryz.isAgg406,
 z53:=Tryz.sizeOf406,
 v53:=Tryz.zeroValue406,
 t55:=Tryz.underlying132,
 a55:=Tryz.isAgg132,
 z55:=Tryz.sizeOf132,
 v55:=Tryz.zeroValue132,
 t66:=Tryz.underlying465,
 a66:=Tryz.isAgg465,
 z66:=Tryz.sizeOf465,
 v66:=Tryz.zeroValue465,
 t70:=Tryz.underlying469,
 a70:=Tryz.isAgg469,
 z70:=Tryz.sizeOf469,
 v70:=Tryz.zeroValue469,
 t76:=Tryz.underlying513,
 a76:=Tryz.isAgg513,
 z76:=Tryz.sizeOf513,
 v76:=Tryz.zeroValue513,
 t77:=Tryz.underlying514,
 a77:=Tryz.isAgg514,
 z77:=Tryz.sizeOf514,
 v77:=Tryz.zeroValue514}
theorem QsO:QkJ Tryz.prog 114 115:=fun _ _ enc f e i b c d w k h j l=>Any.slices_SortFunc QsM enc (fun x=>f x) e i _ #[] b 0 c d w (fun a W=>Qc Tryz.func115 (by kernel_rfl) rfl a W) k h j l
theorem Qht:QbZ Tryz.prog 114:=fun p a b w=>AnyF.slices_SortFunc_none {QsM with} p a b w
theorem QrA (xs:List (List Int))(e:xs.length≤1000000000):FC Tryz.prog 114 [(false,[.ref 0]),(false,[.clo 115 []])] [(0,some (.arr 123 Qm xs))] 1 (Is (.tup []) [(0,some (.arr 123 Qm (ZQ xs)))]):=
 Qqx QsO Qht (fun u v a b w c d=>QcY u v a b w c d) xs e
end Go.Proofs.YtndabgcpnmeeoaaGreat
namespace Go.Proofs.YtndabgcpnmeeoaaGreat
set_option maxHeartbeats 4000000
set_option maxRecDepth 100000
open Go.RowKit
section
variable {N:Nat→Prop}{w:World}{e:Ty}
theorem FzL.len:∀{vs:List Hdr} {xs:List e.Den},FzL N w e vs xs→vs.length=xs.length
 | [],xs,h=>by rw[show xs=[] from h]; rfl
 | v :: vs,_,⟨x,r,h1,_,h3⟩=>by rw[h1,aq,aq,FzL.len h3]
theorem FzL.app:∀{vs:List Hdr} {xs:List e.Den} {a:List Hdr} {ys:List e.Den},FzL N w e vs xs→FzL N w e a ys→FzL N w e (vs++a) (xs++ys)
 | [],_,_,_,h,k=>by rw[show _=[] from h]; exact k
 | v :: vs,_,_,_,⟨x,r,h1,h2,h3⟩,k=>⟨x,r++_,by rw[h1]; rfl,h2,FzL.app h3 k⟩
theorem FzL.at:∀{vs:List Hdr} {xs:List e.Den} {j:Nat} {y:e.Den},FzL N w e vs xs→xs[j]? =some y→∃z,vs[j]? =some z∧Rd N e w [hdV z] y
 | [],_,_,_,h,hy=>by rw[show _=[] from h] at hy; cases hy
 | v :: vs,_,0,y,⟨x,r,h1,h2,h3⟩,hy=>by subst h1; cases hy; exact ⟨v,rfl,h2⟩
 | v :: vs,_,j+1,y,⟨x,r,h1,h2,h3⟩,hy=>by subst h1; exact FzL.at (j:=j) h3 hy
theorem FzL.mem:∀{vs:List Hdr} {xs:List e.Den},FzL N w e vs xs→∀v∈vs,∃x,Rd N e w [hdV v] x
 | [],_,_,_,hv=>by cases hv
 | u :: vs,_,⟨x,r,_,h2,h3⟩,v,hv=>by
  rcases aE.1 hv with rfl | hv
  ·exact ⟨x,h2⟩
  ·exact FzL.mem h3 v hv
theorem FzL.of {f:Hdr→e.Den}:∀{vs:List Hdr},(∀v∈vs,Rd N e w [hdV v] (f v))→FzL N w e vs (vs.map f)
 | [],_=>rfl
 | v :: vs,h=>⟨f v,vs.map f,rfl,h v (aw ..),FzL.of fun u a=>h u (ax _ a)⟩
theorem FzL.fn {E:TypeId}{e:Ty}:∀{vs:List Hdr} {xs:List (List e.Den)},FzL N w (.sl E e) vs xs→vs.map (rdF E e w)=xs∧∀v∈vs,Rd N (.sl E e) w [hdV v] (rdF E e w v)
 | [],_,h=>⟨by rw[show _=[] from h]; rfl,fun _ h=>by cases h⟩
 | v :: vs,_,⟨x,r,h1,h2,h3⟩=>by
  obtain ⟨c,f⟩:=FzL.fn h3
  have b:rdF E e w v=x:=Qsw h2.rep
  refine ⟨by rw[aU,c,b,h1],fun u a=> ?_⟩
  rcases aE.1 a with rfl | a
  ·rw[b]; exact h2
  ·exact f u a
theorem QkE {E:TypeId}{e:Ty}{f:Hdr→List e.Den}{vs:List Hdr}{a:List Nat}(h:OwnL (Own (.sl E e) w) a (vs.map hdV) (vs.map f))(b:∀g∈a,N g):FzL N w (.sl E e) vs (vs.map f):=FzL.of fun v i=>by
 obtain ⟨l,j,k⟩:=K8 h v i
 exact j.rd fun g c=>b g (k g c)
end
section
variable {A:Amb}{P:Program}{s:St}
theorem Rg.toFz {gh:Gh}{a:Act}{w:World}{q:Nat}{E E':TypeId}{e:Ty}{xs:List (List e.Den)}(r:Rg A s gh a w)(I:s.tab.ent q=some (.arr E (.sl E' e) xs)):∃gh',gh'.h=gh.h∧Rg A ⟨s.tm,(q,some (.fz E (.sl E' e) xs)) :: s.tab⟩ gh' a w:=by
 have n:s.tab.al q:=⟨_,I⟩
 have O:Own (.sl E (.sl E' e)) w (gh.f q) [gh.h q] xs:=r.cx.en q _ I
 obtain ⟨v,G,X,f,B,K,L,M⟩:=QfC O
 have o:=r.cx.nd q n
 rw[B] at o
 obtain ⟨U,Y,V⟩:=aT.1 o
 have S:∀g∈v,g∈gh.f q:=fun g i=>by rw[B]; exact aH _ i
 have u:∀g∈G,g∈gh.f q:=fun g i=>by rw[B]; exact aN _ i
 have j:∀t,Tab.al ((q,some (.fz E (.sl E' e) xs)) :: s.tab) t→s.tab.al t:=fun t ⟨x,m⟩=>by
  rw[Qd] at m
  by_cases c:t=q
  ·rw[c]; exact n
  ·rw[if_neg c] at m; exact ⟨_,m⟩
 let gh':Gh:=⟨gh.h,fun t=>if t=q then v else gh.f t,fun g=>gh.N g∨g∈G⟩
 have p:gh'.f q=v:=if_pos rfl
 have z:∀t,t≠q→gh'.f t=gh.f t:=fun t c=>if_neg c
 have k:∀t,∀g∈gh'.f t,g∈gh.f t:=fun t g i=>by
  by_cases c:t=q
  ·rw[c,p] at i; rw[c]; exact S g i
  ·rwa [z t c] at i
 have H:∀g,gh.N g→gh'.N g∧w.heap[g]? =w.heap[g]? :=fun g h=>⟨.inl h,rfl⟩
 refine ⟨gh',rfl,r.step ⟨fun t x m=> ?_,fun t F l D R g i C=>r.cx.dj t F (j t l) (j F D) R g (k t g i) (k F g C),fun t l=> ?_,fun t l g i b=> ?_,fun g b=> ?_⟩ (fun t l=> .inl ⟨j t l,rfl,fun _=>rfl⟩) H (QV w) (fun _ _ _=>rfl) (fun g b=> ?_) fun t l g i=> .inr ⟨t,j t l,k t g i⟩⟩
 ·rw[Qd] at m
  by_cases c:t=q
  ·rw[if_pos c] at m
   cases m
   rw[c]
   refine ⟨X, ?_, ?_⟩
   ·rw[p]; exact K
   ·rw[← M]; exact QkE L fun g i=> .inr i
  ·rw[if_neg c] at m
   exact (r.cx.en t x m).mono (fun W _ Q=>⟨j W Q,rfl⟩) H rfl (z t c) fun _ _=>rfl
 ·by_cases c:t=q
  ·rw[c,p]; exact U
  ·rw[z t c]; exact r.cx.nd t (j t l)
 ·rcases b with b | b
  ·exact r.cx.no t (j t l) g (k t g i) b
  ·by_cases c:t=q
   ·rw[c,p] at i; exact V g i g b rfl
   ·exact r.cx.dj t q (j t l) n c g (k t g i) (u g b)
 ·rcases b with b | b
  ·exact r.cx.nl g b
  ·exact r.cx.lt n g (u g b)
 ·rcases b with b | b
  ·exact .inl b
  ·exact .inr (.inr ⟨q,n,u g b,fun J=>r.xn g J (r.ox q n g (u g b) J)⟩)
theorem Wk.toFz {q:Nat}{E E':TypeId}{e:Ty}{xs:List (List e.Den)}(b:s.tab.ent q=some (.arr E (.sl E' e) xs)):Wk A s ⟨s.tm,(q,some (.fz E (.sl E' e) xs)) :: s.tab⟩:=fun _ _ ⟨_,r⟩=>by
 obtain ⟨a,_,c⟩:=r.toFz b
 exact ⟨a,c⟩
theorem Qap {i q:Nat}{E E':TypeId}{e:Ty}{xs:List (List e.Den)}(hi:lk s.tm i=some (lf (.ref q)))(p:s.tab.ent q=some (.fz E (.sl E' e) xs)):
 Wk A s ⟨(i,lf (.dat (.sl E (.sl E' e)) xs)) :: s.tm,(q,none) :: s.tab⟩:=fun a w r=>by
 obtain ⟨c,r⟩:=r
 obtain ⟨v,Q,l,D,R⟩:=r.tm i _ hi
 simp only[aD,and_true] at D
 subst D
 have V:v=c.h q:=R ⟨_,p⟩
 obtain ⟨zs,S,F⟩:=r.cx.en q _ p
 have B:=F.len
 refine ⟨_,(r.freeze p).know Q (pv:=lf (.dat (.sl E (.sl E' e)) xs)) ⟨_,rfl, ?_⟩⟩
 rw[V]
 show Rd (fun g=>c.N g∨g∈c.f q) (.sl E (.sl E' e)) w [c.h q] xs
 obtain ⟨wM,Y,G⟩:=QaJ (fun g=>c.N g∨g∈c.f q) w
 refine ⟨wM,Y, ?_⟩
 rcases S with ⟨_,n,o⟩ | ⟨g,m,H,fps,K,n,o,L,M,g6,O⟩
 ·have W:xs=[]:=bu (by rw[← B,o]; rfl)
  subst W
  exact ⟨none,0,n,aL _,aP _,fun h=>absurd h (by simp)⟩
 ·refine ⟨_,m,by rw[← B]; exact n,by rw[← B]; exact L,M,fun _=>⟨g,0,rfl,fun j y X=> ?_⟩⟩
  obtain ⟨z,C,wN,w1,w2⟩:=F.at X
  refine ⟨[hdV z],w2.kp (w1.kp fun J t=>G J (.inl t)),fun b u U=> ?_⟩
  obtain ⟨fv,I,Z,o2,o3⟩:=O.get j z C
  have o4:I=[hdV z]:=Z.2
  subst o4
  have k:=o3 b u U
  rw[bw] at k
  split at k
  ·rw[World.cell?_of_block (G g (.inr (by rw[K]; simp)))]
   simp only[World.cell?,o]
   simpa using k
  ·cases k
end
section
variable {A:Amb}{P:Program}{s:St}{x y:Operand}{d:Nat}{T ty:TypeId}{pos:String}{af:Array Edge}{g:Option (Nat×Bool)}
@[reducible] def St.mkF (s:St) (d t:Nat) (used:List Nat) (E:TypeId) (e:Ty) (xs:List e.Den):St:=⟨(d,lf (.ref t)) :: s.tm,(t,some (.fz E e xs)) :: (VG used++s.tab)⟩
theorem Rg.appFF {gh:Gh}{a:Act}{w:World}{K:Act→World→Prop}{Q:Exit→Act→World→Prop}(t:Nat){q q2:Nat}{E:TypeId}{e:Ty}{xs ys:List e.Den}(r:Rg A s gh a w)(k:a.eval x=gh.h q)(f:s.tab.ent q=some (.fz E e xs))(D:a.eval y=gh.h q2)(c:s.tab.ent q2=some (.fz E e ys))
 (hT:P.underlying T=some (.slice E)) (hE:Wt P E 1=true) (hb:xs.length+ys.length≤1073741824) (hn:Nat.blt d A.n=true) (hfr:Fresh s t) (hk0:A.k0≤t) (hK:∀m w',R A (s.mkF d t [q,q2] E e (xs++ys)) m w'→K m w'):
 Oper.wp P ⟨some d, .call {callee:= .builtin .append,args:= #[x,y],argTypes:= #[T,T]},ty,pos,af,g⟩ a w K Q:=by
 obtain ⟨O,B,o⟩:=r.cx.en q _ f
 obtain ⟨l,C,p⟩:=r.cx.en q2 _ c
 obtain ⟨U,w',z,F,u,G,H,I,v⟩:=QbO (P:=P) T ty hT (QdG (e:= .vl) hE) B (r.cx.nd q ⟨_,f⟩) ((Own.rep C).srcOk rfl) bL (by simp) (by simp) (by rw[o.len,p.len]; exact hb)
 have b:∀g,gh.N g→gh.N g∧w'.heap[g]? =w.heap[g]? :=fun g i=>⟨i,v g (r.cx.nl g i) fun h=>r.cx.no q ⟨_,f⟩ g h i⟩
 have J:=r.make t hfr hk0 [q,q2] (by simp only[aE,dc,or_false]; rintro _ (rfl | rfl); exact ⟨_,f⟩; exact ⟨_,c⟩) I (fun g j k=>v g j (k q (by simp))) u G (fun g j=>by
  rcases H g j with h | h | h
  ·exact .inr ⟨q,by simp,h⟩
  ·cases h
  ·exact .inl h)
 have L:=J.mod (q:=t) (Qd .. |>.trans (if_pos rfl)) (QV w') (fun _ _ _=>rfl) (e:= .fz E e (xs++ys)) ⟨O++l,by simpa using u,(o.mono b).app (p.mono b)⟩
 have M:=L.ext (s':=⟨s.tm,(t,some (.fz E e (xs++ys))) :: (VG [q,q2]++s.tab)⟩) (fun _=>rfl) fun S=>by
  rw[Qd,Qd]
  split
  ·rfl
  ·rename_i h; rw[Qd,if_neg h]
 refine QbU rfl (by rw[k,D]; exact F) (hK _ _ ⟨_,M.put (aA hn) (pv:=lf (.ref t)) ⟨_,rfl,fun _=>by simp⟩⟩)
theorem Qf7 (t:Nat){q q2:Nat}{E E':TypeId}{e:Ty}{xs ys:List (List e.Den)}(H:Evl A s x (.ref q))(p:s.tab.ent q=some (.fz E (.sl E' e) xs))(I:Evl A s y (.ref q2))(c:s.tab.ent q2=some (.arr E (.sl E' e) ys))(i:Nat.beq q q2=false)
 (hT:P.underlying T=some (.slice E)) (hE:Wt P E 1=true) (hb:xs.length+ys.length≤1073741824) (hn:Nat.blt d A.n=true) (hfr:Fresh s t) (hk0:A.k0≤t):
 Does A P ⟨some d, .call {callee:= .builtin .append,args:= #[x,y],argTypes:= #[T,T]},ty,pos,af,g⟩ s (s.mkF d t [q,q2] E (.sl E' e) (xs++ys)):=fun a w K Q r G=>by
 have j:q≠q2:=fun h=>by rw[h,dq] at i; cases i
 obtain ⟨o,r⟩:=r
 have B:=H o a w r ⟨_,p⟩
 have C:=I o a w r ⟨_,c⟩
 obtain ⟨D,u,J⟩:=r.toFz c
 have f:Fresh ⟨s.tm,(q2,some (.fz E (.sl E' e) ys)) :: s.tab⟩ t:=⟨hfr.tm,fun L m b=>by
  rw[Qd] at b
  split at b
  ·cases b; exact fun h=>by cases h
  ·exact hfr.en L m b,fun ⟨m,b⟩=>by
  rw[Qd] at b
  split at b
  ·rename_i F; exact hfr.al ⟨_,F▸c⟩
  ·exact hfr.al ⟨_,b⟩⟩
 refine J.appFF t (q:=q) (q2:=q2) (by rw[u]; exact B) (by rw[Qd,if_neg j]; exact p) (by rw[u]; exact C) (by rw[Qd,if_pos rfl]) hT hE hb hn f hk0 fun z M l=>G z M ?_
 obtain ⟨k,l⟩:=l
 refine ⟨k,l.ext (fun _=>rfl) fun v=> ?_⟩
 show Tab.ent ((t,_) :: (VG [q,q2]++s.tab)) v=Tab.ent ((t,_) :: (VG [q,q2]++((q2,_) :: s.tab))) v
 rw[Qd,Qd]
 split
 ·rfl
 ·rw[KD,KD]
  split
  ·rfl
  ·rename_i h; rw[Qd,if_neg (fun b=>h (by simp[b]))]
theorem QxO {E:TypeId}{e:Ty}{xs ys:List e.Den}(h:xs=ys):some (Ent.fz E e xs)=some (Ent.fz E e ys):=congrArg (fun z=>some (Ent.fz E e z)) h
theorem Qf6 (t:Nat){q q2:Nat}{E:TypeId}{e:Ty}{xs ys:List e.Den}(l:Evl A s x (.ref q))(f:s.tab.ent q=some (.fz E e xs))(G:Evl A s y (.ref q2))(i:s.tab.ent q2=some (.fz E e ys))
 (hT:P.underlying T=some (.slice E)) (hE:Wt P E 1=true) (hb:xs.length+ys.length≤1073741824) (hn:Nat.blt d A.n=true) (hfr:Fresh s t) (hk0:A.k0≤t):
 Does A P ⟨some d, .call {callee:= .builtin .append,args:= #[x,y],argTypes:= #[T,T]},ty,pos,af,g⟩ s (s.mkF d t [q] E e (xs++ys)):=fun a w K Q r F=>by
 obtain ⟨b,r⟩:=r
 obtain ⟨S,C,o⟩:=r.cx.en q _ f
 obtain ⟨m,D,p⟩:=r.cx.en q2 _ i
 obtain ⟨V,z,B,H,u,I,J,L,v⟩:=QbO (P:=P) T ty hT (QdG (e:= .vl) hE) C (r.cx.nd q ⟨_,f⟩) ((Own.rep D).srcOk rfl) bL (by simp) (by simp) (by rw[o.len,p.len]; exact hb)
 have c:∀g,b.N g→b.N g∧z.heap[g]? =w.heap[g]? :=fun g j=>⟨j,v g (r.cx.nl g j) fun h=>r.cx.no q ⟨_,f⟩ g h j⟩
 have M:=r.make t hfr hk0 [q] (by simp only[aE,dc,or_false]; rintro _ rfl; exact ⟨_,f⟩) L (fun g k l=>v g k (l q (by simp))) u I (fun g k=>by
  rcases J g k with h | h | h
  ·exact .inr ⟨q,by simp,h⟩
  ·cases h
  ·exact .inl h)
 have O:=M.mod (q:=t) (Qd .. |>.trans (if_pos rfl)) (QV z) (fun _ _ _=>rfl) (e:= .fz E e (xs++ys)) ⟨S++m,by simpa using u,(o.mono c).app (p.mono c)⟩
 have R:=O.ext (s':=⟨s.tm,(t,some (.fz E e (xs++ys))) :: (VG [q]++s.tab)⟩) (fun _=>rfl) fun U=>by
  rw[Qd,Qd]
  split
  ·rfl
  ·rename_i h; rw[Qd,if_neg h]
 refine QbU rfl (by rw[show a.eval x=b.h q from l b a w r ⟨_,f⟩,show a.eval y=b.h q2 from G b a w r ⟨_,i⟩]; exact H) (F _ _ ⟨_,R.put (aA hn) (pv:=lf (.ref t)) ⟨_,rfl,fun _=>by simp⟩⟩)
theorem QoH {ops:Array Oper}{l:List Oper}{Q:Exit→St→Prop}{p:TypeId}{q:Nat}{E E':TypeId}{e:Ty}{xs:List e.Den}(H:Evl A s x (.ref q))(t:s.tab.ent q=some (.fz E e xs))(I:Evl A s y (.val (.slice none 0 0)))
 (hT:P.underlying T=some (.slice E')) (hn:Nat.blt d A.n=true) (k:∀b:Bool,(b=true→xs=[])→AL A P ops l Q (s.put d (lf (dB b)))):AL A P ops (⟨some d, .binOp .eql T x y p,ty,pos,af,none⟩ :: l) Q s:=
 fun a w r=>wpList_plain rfl fun _ F=>by
  obtain ⟨f,i⟩:=r
  have u:a.eval x=f.h q:=H f a w i ⟨_,t⟩
  obtain ⟨J,G,D⟩:=i.cx.en q _ t
  obtain ⟨B,c,j,K,L,v⟩:=Own.rep G
  simp only[aD,and_true] at j
  rw[← u] at j
  have m:a.eval y= .slice none 0 0:=I f a w i
  have e:(execOp a.eval ⟨some d, .binOp .eql T x y p,ty,pos,af,none⟩).run P w= .ok (.value (.bool B.isNone)) w:=by
   simp only[execOp,j,m,eqGuard_at_slice]
   simp[ay,Qho hT]
  unfold Oper.wp
  rw[e,Oper.upon_value]
  refine F _ _ (k B.isNone (fun h=> ?_) _ _ ⟨f,i.put (aA hn) (pv:=lf (dB B.isNone)) ⟨_,rfl,ZI⟩⟩)
  cases J with
  | nil=>exact bu (by rw[← D.len]; rfl)
  | cons z M=>
   obtain ⟨b,o,C,_⟩:=v (by simp)
   rw[C] at h
   cases h
end
end Go.Proofs.YtndabgcpnmeeoaaGreat
