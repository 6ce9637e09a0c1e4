/- Abstract states: an own slice whose elements are frozen slices. No program is named here. -/
import Derived.Test.YtjfpbcmfbnnooaaGreatGBc
import Derived.Test.YtjfpbcmfbnnooaaGreatGAu
set_option linter.unusedSimpArgs false
set_option linter.unusedVariables false
set_option linter.unusedSectionVars false
namespace Go.Proofs.YtjfpbcmfbnnooaaGreat
open Go.RowKit
section
variable {N:Nat→Prop}{w:World}{e:Ty}
theorem FzL.len:∀{vs:List Hdr} {xs:List e.Den},FzL N w e vs xs→vs.length=xs.length
 | [],xs,h=>by rw[show xs=[] from h];rfl
 | v::vs,_,⟨x,r,h1,_,h3⟩=>by rw[h1,av,av,FzL.len h3]
theorem FzL.app:∀{vs:List Hdr} {xs:List e.Den} {a:List Hdr} {ys:List e.Den},FzL N w e vs xs→FzL N w e a ys→FzL N w e (vs++a) (xs++ys)
 | [],_,_,_,h,k=>by rw[show _=[] from h];exact k
 | v::vs,_,_,_,⟨x,r,h1,h2,h3⟩,k=>⟨x,r++_,by rw[h1];rfl,h2,FzL.app h3 k⟩
theorem FzL.at:∀{vs:List Hdr} {xs:List e.Den} {j:Nat} {y:e.Den},FzL N w e vs xs→xs[j]? =some y→∃z,vs[j]? =some z∧Rd N e w [hdV z] y
 | [],_,_,_,h,hy=>by rw[show _=[] from h] at hy;cases hy
 | v::vs,_,0,y,⟨x,r,h1,h2,h3⟩,hy=>by subst h1;cases hy;exact ⟨v,rfl,h2⟩
 | v::vs,_,j+1,y,⟨x,r,h1,h2,h3⟩,hy=>by subst h1;exact FzL.at (j:=j) h3 hy
theorem FzL.mem:∀{vs:List Hdr} {xs:List e.Den},FzL N w e vs xs→∀v∈vs,∃x,Rd N e w [hdV v] x
 | [],_,_,_,hv=>by cases hv
 | u::vs,_,⟨x,r,_,h2,h3⟩,v,hv=>by
  rcases aJ.1 hv with rfl|hv
  ·exact ⟨x,h2⟩
  ·exact FzL.mem h3 v hv
theorem FzL.of {f:Hdr→e.Den}:∀{vs:List Hdr},(∀v∈vs,Rd N e w [hdV v] (f v))→FzL N w e vs (vs.map f)
 | [],_=>rfl
 | v::vs,h=>⟨f v,vs.map f,rfl,h v (aB ..),FzL.of fun u a=>h u (aA _ a)⟩
theorem Qwu {E:TypeId}{e:Ty}:∀{vs:List Hdr} {xs:List (List e.Den)},FzL N w (.sl E e) vs xs→vs.map (rdF E e w)=xs∧∀v∈vs,Rd N (.sl E e) w [hdV v] (rdF E e w v)
 | [],_,h=>⟨by rw[show _=[] from h];rfl,fun _ h=>by cases h⟩
 | v::vs,_,⟨x,r,h1,h2,h3⟩=>by
  obtain ⟨c,f⟩:=Qwu h3
  have b:rdF E e w v=x:=QsU h2.rep
  refine ⟨by rw[bf,c,b,h1],fun u a=> ?_⟩
  rcases aJ.1 a with rfl|a
  ·rw[b];exact h2
  ·exact f u a
theorem QkF {E:TypeId}{e:Ty}{f:Hdr→List e.Den}{vs:List Hdr}{a:List Nat}(h:OwnL (Own (.sl E e) w) a (vs.map hdV) (vs.map f))(b:∀g∈a,N g):FzL N w (.sl E e) vs (vs.map f):=FzL.of fun v i=>by
 obtain ⟨l,j,k⟩:=Qd2 h v i
 exact j.rd fun g c=>b g (k g c)
end
section
variable {A:Amb}{P:Program}{s:St}
theorem Rg.toFz {gh:Gh}{a:Act}{w:World}{q:Nat}{E E':TypeId}{e:Ty}{xs:List (List e.Den)}(r:Rg A s gh a w)(I:s.tab.ent q=some (.arr E (.sl E' e) xs)):∃gh',gh'.h=gh.h∧Rg A ⟨s.tm,(q,some (.fz E (.sl E' e) xs))::s.tab⟩ gh' a w:=by
 have n:s.tab.al q:=⟨_,I⟩
 have O:Own (.sl E (.sl E' e)) w (gh.f q) [gh.h q] xs:=r.cx.en q _ I
 obtain ⟨v,G,X,f,B,K,L,M⟩:=Qka O
 have o:=r.cx.nd q n
 rw[B] at o
 obtain ⟨U,Y,V⟩:=bj.1 o
 have S:∀g∈v,g∈gh.f q:=fun g i=>by rw[B];exact aS _ i
 have u:∀g∈G,g∈gh.f q:=fun g i=>by rw[B];exact aW _ i
 have j:∀t,Tab.al ((q,some (.fz E (.sl E' e) xs))::s.tab) t→s.tab.al t:=fun t ⟨x,m⟩=>by
  rw[Qg] at m
  by_cases c:t=q
  ·rw[c];exact n
  ·rw[if_neg c] at m;exact ⟨_,m⟩
 let gh':Gh:=⟨gh.h,fun t=>if t=q then v else gh.f t,fun g=>gh.N g∨g∈G⟩
 have p:gh'.f q=v:=if_pos rfl
 have z:∀t,t≠q→gh'.f t=gh.f t:=fun t c=>if_neg c
 have k:∀t,∀g∈gh'.f t,g∈gh.f t:=fun t g i=>by
  by_cases c:t=q
  ·rw[c,p] at i;rw[c];exact S g i
  ·rwa [z t c] at i
 have H:∀g,gh.N g→gh'.N g∧w.heap[g]? =w.heap[g]? :=fun g h=>⟨.inl h,rfl⟩
 refine ⟨gh',rfl,r.step ⟨fun t x m=> ?_,fun t F l D R g i C=>r.cx.dj t F (j t l) (j F D) R g (k t g i) (k F g C),fun t l=> ?_,fun t l g i b=> ?_,fun g b=> ?_⟩ (fun t l=> .inl ⟨j t l,rfl,fun _=>rfl⟩) H (Zl w) (fun _ _ _=>rfl) (fun g b=> ?_) fun t l g i=> .inr ⟨t,j t l,k t g i⟩⟩
 ·rw[Qg] at m
  by_cases c:t=q
  ·rw[if_pos c] at m
   cases m
   rw[c]
   refine ⟨X,?_,?_⟩
   ·rw[p];exact K
   ·rw[← M];exact QkF L fun g i=> .inr i
  ·rw[if_neg c] at m
   exact (r.cx.en t x m).mono (fun W _ Q=>⟨j W Q,rfl⟩) H rfl (z t c) fun _ _=>rfl
 ·by_cases c:t=q
  ·rw[c,p];exact U
  ·rw[z t c];exact r.cx.nd t (j t l)
 ·rcases b with b|b
  ·exact r.cx.no t (j t l) g (k t g i) b
  ·by_cases c:t=q
   ·rw[c,p] at i;exact V g i g b rfl
   ·exact r.cx.dj t q (j t l) n c g (k t g i) (u g b)
 ·rcases b with b|b
  ·exact r.cx.nl g b
  ·exact r.cx.lt n g (u g b)
 ·rcases b with b|b
  ·exact .inl b
  ·exact .inr (.inr ⟨q,n,u g b,fun J=>r.xn g J (r.ox q n g (u g b) J)⟩)
theorem Wk.toFz {q:Nat}{E E':TypeId}{e:Ty}{xs:List (List e.Den)}(b:s.tab.ent q=some (.arr E (.sl E' e) xs)):Wk A s ⟨s.tm,(q,some (.fz E (.sl E' e) xs))::s.tab⟩:=fun _ _ ⟨_,r⟩=>by
 obtain ⟨a,_,c⟩:=r.toFz b
 exact ⟨a,c⟩
theorem QkK {i q:Nat}{E E':TypeId}{e:Ty}{xs:List (List e.Den)}(hi:lk s.tm i=some (lf (.ref q)))(p:s.tab.ent q=some (.fz E (.sl E' e) xs)):
 Wk A s ⟨(i,lf (.dat (.sl E (.sl E' e)) xs))::s.tm,(q,none)::s.tab⟩:=fun a w r=>by
 obtain ⟨c,r⟩:=r
 obtain ⟨v,Q,l,D,R⟩:=r.tm i _ hi
 simp only[aI,and_true] at D
 subst D
 have V:v=c.h q:=R ⟨_,p⟩
 obtain ⟨zs,S,F⟩:=r.cx.en q _ p
 have B:=F.len
 refine ⟨_,(r.freeze p).know Q (pv:=lf (.dat (.sl E (.sl E' e)) xs)) ⟨_,rfl,?_⟩⟩
 rw[V]
 show Rd (fun g=>c.N g∨g∈c.f q) (.sl E (.sl E' e)) w [c.h q] xs
 obtain ⟨wM,Y,G⟩:=VU (fun g=>c.N g∨g∈c.f q) w
 refine ⟨wM,Y,?_⟩
 rcases S with ⟨_,n,o⟩|⟨g,m,H,fps,K,n,o,L,M,g6,O⟩
 ·have W:xs=[]:=bi (by rw[← B,o];rfl)
  subst W
  exact ⟨none,0,n,aO _,aL _,fun h=>absurd h (by simp)⟩
 ·refine ⟨_,m,by rw[← B];exact n,by rw[← B];exact L,M,fun _=>⟨g,0,rfl,fun j y X=> ?_⟩⟩
  obtain ⟨z,C,wN,w1,w2⟩:=F.at X
  refine ⟨[hdV z],w2.kp (w1.kp fun J t=>G J (.inl t)),fun b u U=> ?_⟩
  obtain ⟨fv,I,Z,o2,o3⟩:=O.get j z C
  have o4:I=[hdV z]:=Z.2
  subst o4
  have k:=o3 b u U
  rw[bc] at k
  split at k
  ·rw[cK (G g (.inr (by rw[K];simp)))]
   simp only[World.cell?,o]
   simpa using k
  ·cases k
end
section
variable {A:Amb}{P:Program}{s:St}{x y:Operand}{d:Nat}{T ty:TypeId}{pos:String}{af:Array Edge}{g:Option (Nat×Bool)}
@[reducible] def St.mkF (s:St) (d t:Nat) (used:List Nat) (E:TypeId) (e:Ty) (xs:List e.Den):St:=⟨(d,lf (.ref t))::s.tm,(t,some (.fz E e xs))::(W5 used++s.tab)⟩
theorem QwU {E:TypeId}{e:Ty}{xs ys:List e.Den}(h:xs=ys):some (Ent.fz E e xs)=some (Ent.fz E e ys):=congrArg (fun z=>some (Ent.fz E e z)) h
theorem Qgo (t:Nat){q j:Nat}{E:TypeId}{e:Ty}{xs ys:List e.Den}(m:Evl A s x (.ref q))(f:s.tab.ent q=some (.fz E e xs))(H:Evl A s y (.ref j))(i:s.tab.ent j=some (.fz E e ys))
 (hT:P.underlying T=some (.slice E)) (hE:X1 P E 1=true) (hb:xs.length+ys.length≤1073741824) (hn:Nat.blt d A.n=true) (hfr:Fresh s t) (hk0:A.k0≤t):
 Does A P ⟨some d,.call {callee:= .builtin .append,args:= #[x,y],argTypes:= #[T,T]},ty,pos,af,g⟩ s (s.mkF d t [q] E e (xs++ys)):=fun a w K Q r G=>by
 obtain ⟨b,r⟩:=r
 obtain ⟨U,D,p⟩:=r.cx.en q _ f
 obtain ⟨o,F,u⟩:=r.cx.en j _ i
 obtain ⟨W,B,C,I,v,J,L,M,z⟩:=QbM (P:=P) T ty hT (Qbh (e:= .vl) hE) D (r.cx.nd q ⟨_,f⟩) ((Own.rep F).srcOk rfl) bG (by simp) (by simp) (by rw[p.len,u.len];exact hb)
 have c:∀g,b.N g→b.N g∧B.heap[g]? =w.heap[g]? :=fun g k=>⟨k,z g (r.cx.nl g k) fun h=>r.cx.no q ⟨_,f⟩ g h k⟩
 have O:=r.make t hfr hk0 [q] (by simp only[aJ,bN,or_false];rintro _ rfl;exact ⟨_,f⟩) M (fun g l m=>z g l (m q (by simp))) v J (fun g l=>by
  rcases L g l with h|h|h
  ·exact .inr ⟨q,by simp,h⟩
  ·cases h
  ·exact .inl h)
 have R:=O.mod (q:=t) (Qg .. |>.trans (if_pos rfl)) (Zl B) (fun _ _ _=>rfl) (e:= .fz E e (xs++ys)) ⟨U++o,by simpa using v,(p.mono c).app (u.mono c)⟩
 have S:=R.ext (s':=⟨s.tm,(t,some (.fz E e (xs++ys)))::(W5 [q]++s.tab)⟩) (fun _=>rfl) fun V=>by
  rw[Qg,Qg]
  split
  ·rfl
  ·rename_i h;rw[Qg,if_neg h]
 refine Hf rfl (by rw[show a.eval x=b.h q from m b a w r ⟨_,f⟩,show a.eval y=b.h j from H b a w r ⟨_,i⟩];exact I) (G _ _ ⟨_,S.put (aE hn) (pv:=lf (.ref t)) ⟨_,rfl,fun _=>by simp⟩⟩)
theorem Hk {i:Nat}(E:TypeId)(e:Ty)(hi:lk s.tm i=some (lf (.val (.slice none 0 0)))):Wk A s ⟨(i,lf (.dat (.sl E e) []))::s.tm,s.tab⟩:=fun a w r=>by
 obtain ⟨c,r⟩:=r
 obtain ⟨v,f,l,b,h⟩:=r.tm i _ hi
 simp only[aI,and_true] at b
 subst b
 have j:v= .slice none 0 0:=h
 refine ⟨_,r.know f (pv:=lf (.dat (.sl E e) [])) ⟨_,rfl,?_⟩⟩
 rw[j]
 exact (Evl.nil (A:=A) (s:=s) (E:=E) (e:=e)) c a w r
theorem QhV (t:Nat){E E':TypeId}{e:Ty}{ys:List e.Den}{z:Value}(U:P.underlying T=some (.slice E))(R:tsh P E=some (false,1))(Z:zer P E=some z)(Y:Ev A s y (false,[.dat (.sl E' e) ys]))(V:0<ys.length)(W:Nat.blt d A.n=true)(H:Fresh s t)(I:A.k0≤t):
 Does A P ⟨some d,.buildSlice T 1 #[(0,y)],ty,pos,af,g⟩ s (s.mkF d t [] E (.sl E' e) [ys]):=fun a w K Q r S=>by
 obtain ⟨B,r⟩:=r
 obtain ⟨l,m,X⟩:=Y B a w r
 simp only[aI,and_true] at m
 subst m
 have u:Rd B.N (.sl E' e) w [a.eval y] ys:=X
 obtain ⟨A',c,M,h2,h3,O⟩:=u.rep
 obtain ⟨b,o,rfl,_⟩:=O V
 have C:a.eval y=hdV (some (b,o,ys.length,c)):=by simpa [hdV] using M
 have F:(a.eval y).cells.size=1:=by rw[C];rfl
 obtain ⟨f,k1,k2⟩:=QaE 1 [a.eval y] 0 ((Array.range (1*1)).map ((z.cells)[· % (z.cells).size]!)) (by simpa using F) (by simp)
 have v:(execOp a.eval ⟨some d,.buildSlice T 1 #[(0,y)],ty,pos,af,g⟩).run P w= .ok (.value (.slice (some ⟨w.heap.size,0,none⟩) 1 1)) (w.alloc (.cells f E)):=by
  simp only[execOp,Instr.buildSlice,aw,run_underlying U,aG,Yw R]
  rw[if_neg (by decide),if_neg (by decide)]
  simp only[aY,aG,aw,XP Z]
  rw[show (Array.map (fun p:Nat×Operand=>(p.1,a.eval p.2)) #[(0,y)]).toList=([a.eval y].zipIdx 0).map fun p=>(p.2,p.1) by simp,k1]
  simp[newRow,aw]
 unfold Oper.wp
 rw[v,Oper.upon_value]
 have j:∀g,g<w.heap.size→(w.alloc (.cells f E)).heap[g]? =w.heap[g]? :=fun g k=>Below.heap_alloc w _ g k
 have i:f.toList=[hdV (some (b,o,ys.length,c))]:=by
  rw[k2,C];rfl
 have G:f.size=1:=by rw[show f.size=f.toList.length by simp,i];rfl
 have D:∀g,B.N g→B.N g∧(w.alloc (.cells f E)).heap[g]? =w.heap[g]? :=fun g J=>⟨J,j g (r.cx.nl g J)⟩
 have L:Own (.sl E .vl) (w.alloc (.cells f E)) [w.heap.size] [.slice (some ⟨w.heap.size,0,none⟩) 1 1] [some (b,o,ys.length,c)]:= .inr ⟨w.heap.size,1,f,[],rfl,rfl,heap_alloc_new w _,by simp,by unfold maxLen;omega,G,by
  rw[aP (by rw[i];exact aO _),i]
  exact ⟨[],[],[hdV (some (b,o,ys.length,c))],[],rfl,rfl,⟨rfl,rfl⟩,⟨rfl,rfl⟩⟩⟩
 have r2:=r.make (w':=w.alloc (.cells f E)) t H I [] (by simp) ⟨rfl,rfl,rfl,by simp⟩ (fun g k _=>j g k) (hv:= .slice (some ⟨w.heap.size,0,none⟩) 1 1) (fp:=[w.heap.size]) (E:=E) (e:= .vl) (xs:=[some (b,o,ys.length,c)])
  L (by simp) (fun g k=> .inl (by simp at k;omega))
 have r3:=r2.mod (q:=t) (Qg .. |>.trans (if_pos rfl)) (Zl _) (fun _ _ _=>rfl) (e:= .fz E (.sl E' e) [ys]) ⟨[some (b,o,ys.length,c)],by simpa using L,ys,[],rfl,C▸u.mono D,rfl⟩
 have r4:=r3.ext (s':=⟨s.tm,(t,some (.fz E (.sl E' e) [ys]))::(W5 []++s.tab)⟩) (fun _=>rfl) fun q'=>by
  rw[Qg,Qg]
  split
  ·rfl
  ·rename_i h;rw[Qg,if_neg h]
 exact S _ _ ⟨_,r4.put (aE W) (pv:=lf (.ref t)) ⟨_,rfl,fun _=>by simp⟩⟩
end
def ZL (N:Nat→Prop)(w:World)(e:Ty):List Value→List e.Den→Prop
 | cs,[]=>cs=[]
 | cs,x::xs=>∃c1 c2,cs=c1++c2∧Rd N e w c1 x∧ZL N w e c2 xs
section
variable {N N':Nat→Prop}{w w':World}{e:Ty}
theorem ZL.len:∀{xs:List e.Den} {cs:List Value},ZL N w e cs xs→cs.length=xs.length*e.wd
 | [],_,h=>by rw[show _=[] from h];simp
 | _::xs,_,⟨_,_,h2,h3,h4⟩=>by rw[h2,ah,h3.rep.len,h4.len,av,bK,cJ,dF]
theorem ZL.mono:∀{xs:List e.Den} {cs:List Value},ZL N w e cs xs→(∀g,N g→N' g∧w'.heap[g]? =w.heap[g]?)→ZL N' w' e cs xs
 | [],_,h,_=>h
 | _::_,_,⟨c1,c2,h2,h3,h4⟩,k=>⟨c1,c2,h2,h3.mono k,h4.mono k⟩
theorem ZL.app:∀{xs ys:List e.Den} {c1 c2:List Value},ZL N w e c1 xs→ZL N w e c2 ys→ZL N w e (c1++c2) (xs++ys)
 | [],_,_,_,h,k=>by rw[show _=[] from h];exact k
 | _::_,_,_,_,⟨a,b,h1,h2,h3⟩,k=>⟨a,b++_,by rw[h1,aR],h2,h3.app k⟩
theorem ZL.one:∀{xs:List e.Den} {cs:List Value},ZL N w e cs xs→∀u∈cs,u.oneCell'=true
 | [],_,h,u,hu=>by rw[show _=[] from h] at hu;cases hu
 | _::_,_,⟨_,_,h2,h3,h4⟩,u,hu=>by
  rw[h2] at hu
  exact (aQ.1 hu).elim (Rep.one h3.rep u) (h4.one u)
theorem ZL.get:∀{xs:List e.Den} {cs:List Value},ZL N w e cs xs→∀i x,xs[i]? =some x→∃c,Rd N e w c x∧∀j u,c[j]? =some u→cs[i*e.wd+j]? =some u
 | [],_,_,i,x,hx=>by simp at hx
 | y::xs,_,⟨a,b,h2,h3,h4⟩,i,x,hx=>by
  have h:=h3.rep.len
  cases i with
  | zero=>
   cases hx
   refine ⟨a,h3,fun j u f=> ?_⟩
   have:=(ai.1 f).1
   rw[h2,Nat.zero_mul,bw,bo this];exact f
  | succ i=>
   obtain ⟨c,k,l⟩:=h4.get i x hx
   refine ⟨c,k,fun j u f=> ?_⟩
   rw[h2,bl (by rw[h,bK];omega),h,show (i+1)*e.wd+j - e.wd=i*e.wd+j by rw[bK];omega]
   exact l j u f
end
def zrR (E:TypeId)(e:Ty)(xs:List e.Den):Rsc where
 rel N w f v:=∃cs,w.ownsRow 0 E e.wd v xs.length cs∧ZL N w e cs xs∧((v.ownBlock=none∧f=[])∨∃g,v.ownBlock=some g∧f=[g])
 fl:=false
 keep:=fun ⟨cs,h1,h2,h3⟩ hf hN=>by
  refine ⟨cs,⟨h1.1,?_⟩,h2.mono hN,h3⟩
  rcases h1.2 with h|⟨g,cap,cur,k1,k2,k3,k4⟩
  ·exact .inl h
  ·refine .inr ⟨g,cap,cur,k1,k2,?_,k4⟩
   rw[k1] at h3
   rcases h3 with ⟨h,_⟩|⟨g',h,h'⟩
   ·cases h
   ·cases h;rw[hf g (by rw[h'];simp)];exact k3
 lt:=fun ⟨cs,h1,h2,h3⟩ g hg=>by
  rcases h1.2 with ⟨h,_⟩|⟨g',cap,cur,k1,k2,k3,k4⟩
  ·rw[h] at h3
   rcases h3 with ⟨_,h'⟩|⟨_,h',_⟩
   ·rw[h'] at hg;cases hg
   ·cases h'
  ·rw[k1] at h3
   rcases h3 with ⟨h,_⟩|⟨g2,h,h'⟩
   ·cases h
   ·cases h
    rw[h',aF] at hg
    rw[hg]
    exact (bX.1 k3).1
 one:=fun ⟨cs,h1,_⟩=>by
  rcases h1.2 with ⟨h,_⟩|⟨_,_,_,h,_⟩ <;> rw[h] <;> rfl
 noN:=fun h=>by cases h
theorem Xi {E:TypeId}{e:Ty}{xs ys:List e.Den}(h:xs=ys):some (Ent.res (zrR E e xs))=some (Ent.res (zrR E e ys)):=congrArg (fun z=>some (Ent.res (zrR E e z))) h
section
variable {A:Amb}{P:Program}{s:St}{x y:Operand}{d:Nat}{T ty:TypeId}{pos:String}{af:Array Edge}{g:Option (Nat×Bool)}
theorem Rg.takeR {gh:Gh}{a:Act}{w w':World}(r:Rg A s gh a w){t:Nat}{R:Rsc}{u:Value}{f:List Nat}(b:List Nat)(D:∀q∈b,s.tab.al q)(n:Fresh s t)(H:A.k0≤t)(h:R.rel gh.N w' f u)(o:f.Nodup)
 (hf:∀g∈f,w.heap.size≤g∨∃q∈b,g∈gh.f q) (k:Grw w w') (hb:∀g,g<w.heap.size→(∀q∈b,g∉gh.f q)→w'.heap[g]? =w.heap[g]?):
 Rg A ⟨s.tm,(t,some (.res R))::(W5 b++s.tab)⟩ ⟨upd gh.h t u,upd gh.f t f,gh.N⟩ a w':=
 r.redo (fun v=>v=t∨v∈b) rfl (fun v c=>⟨by rw[Qg,if_neg fun h=>c (.inl h),VD,if_neg fun h=>c (.inr h)],WG _ _ fun h=>c (.inl h),WG _ _ fun h=>c (.inl h)⟩) (fun v M c i=>by
  by_cases j:v=t
  ·subst j
   rw[Qg,if_pos rfl] at i
   cases i
   refine ⟨fun al=> ?_,?_,fun g k=> ?_,.inr ⟨n,H⟩⟩
   ·show R.rel gh.N w' (upd gh.f v f v) (upd gh.h v u v)
    rw[Yc,Yc];exact h
   ·show (upd gh.f v f v).Nodup
    rw[Yc];exact o
   ·have k:g∈upd gh.f v f v:=k
    rw[Yc] at k
    exact (hf g k).imp id fun ⟨q,z,F⟩=>⟨q,.inr z,D q z,F⟩
  ·rw[Qg,if_neg j,VD,if_pos (c.resolve_left j)] at i
   cases i) (fun v L c p ⟨_,G⟩ ⟨_,m⟩ J=>by
  have l:∀v,(v=t∨v∈b)→∀e,Tab.ent ((t,some (.res R))::(W5 b++s.tab)) v=some e→v=t:=fun v c e B=>by
   by_cases j:v=t
   ·exact j
   ·rw[Qg,if_neg j,VD,if_pos (c.resolve_left j)] at B;cases B
  exact absurd ((l v c _ G).trans (l L p _ m).symm) J) k fun g I K=>hb g I fun q C=>K q (.inr C) (D q C)
theorem Yk {q:Nat}{E:TypeId}{e:Ty}(i:s.tab.ent q=some (.arr E e [])):Wk A s ⟨s.tm,(q,some (.res (zrR E e [])))::s.tab⟩:=fun a w ⟨gh,r⟩=>by
 have k:Own (.sl E e) w (gh.f q) [gh.h q] []:=r.cx.en q _ i
 obtain ⟨j,fps,l,⟨m,c⟩,n⟩:=k.row
 refine ⟨gh,r.mod i (Zl w) (fun _ _ _=>rfl) ⟨j,l,c,?_⟩⟩
 rcases n with ⟨h,b,_⟩|⟨g,h,b⟩
 ·exact .inl ⟨h,b⟩
 ·exact .inr ⟨g,h,by rw[b,m]⟩
theorem QtF {al:Nat→Prop}{gh:Gh}{w:World}{e:Ty}:∀{xs:List e.Den} {vs:List Value},CmsR al gh w (xs.map fun p=>(true,leaves e p)) vs→ZL gh.N w e (vs.flatMap fun v=>v.cells.toList) xs∧(∀v∈vs,v.cells.size=e.wd)∧vs.length=xs.length
 | [],vs,h=>by rw[show vs=[] from h];exact ⟨rfl,fun v b=>(by cases b),rfl⟩
 | x::xs,_,⟨v,vs,rfl,⟨us,b,h1⟩,h2⟩=>by
  obtain ⟨i,j,k⟩:=QtF h2
  have c:Rd gh.N e w us x:=LVs.rd h1
  have f:v.cells.toList=us:=by rw[b];simp[Value.cells]
  refine ⟨⟨us,_,by rw[List.flatMap_cons,f],c,i⟩,fun u a=> ?_,by rw[av,av,k]⟩
  rcases aJ.1 a with rfl|a
  ·rw[show u.cells.size=u.cells.toList.length by simp,f,c.rep.len]
  ·exact j u a
theorem Wb (t:Nat){E:TypeId}{e:Ty}{n:Nat}{b:Array (Nat×Operand)}{o:List (Bool×List LV)}(xs:List e.Den){z:Value}(hT:P.underlying T=some (.slice E))(hE:tsh P E=some (true,e.wd))(hz:zer P E=some z)
 (hpn:b.toList.map (·.1)=List.range n) (hv:EvL A s (b.toList.map (·.2)) o) (hcs:o=xs.map fun p=>(true,leaves e p)) (hsz:Nat.ble (n*e.wd) 16777216=true) (hn:Nat.blt d A.n=true) (hfr:Fresh s t) (hk0:A.k0≤t):
 Does A P ⟨some d,.buildSlice T n b,ty,pos,af,g⟩ s ⟨(d,lf (.ref t))::s.tm,(t,some (.res (zrR E e xs)))::s.tab⟩:=fun a w K Q r hK=>by
 subst hcs
 obtain ⟨gh,r⟩:=r
 have W:=hv.cms r
 generalize Y:(b.toList.map (·.2)).map a.eval=vs at*
 obtain ⟨O,h3,h4⟩:=QtF W
 have V:vs.length=n:=by
  have:=congrArg List.length hpn
  rw[← Y]
  simpa using this
 have j:(b.map fun p=>(p.1,a.eval p.2)).toList=(vs.zipIdx 0).map fun p=>(p.2,p.1):=by
  rw[cY]
  apply bM
  intro i
  have J:=congrArg (fun l=>l[i]?) hpn
  have m:=congrArg (fun l=>l[i]?) Y
  simp only[bn] at J m ⊢
  rw[List.getElem?_zipIdx]
  cases hp:b.toList[i]? with
  | none=>
   have L:vs[i]? =none:=by rw[hp] at m;exact m.symm
   simp[L]
  | some p=>
   rw[hp] at J m
   simp only[cO] at J m
   rw[← m]
   have:p.1=i:=by
    have Z:=(ai.1 J.symm)
    obtain ⟨Z,F⟩:=Z
    rw[List.getElem_range] at F
    exact F.symm
   simp[this]
 obtain ⟨c,M,k2⟩:=QaE e.wd vs 0 ((Array.range (n*e.wd)).map (((if n*e.wd=0 then #[] else z.cells):Array Value)[· % ((if n*e.wd=0 then #[] else z.cells):Array Value).size]!)) h3 (by simp[V])
 have I:(execOp a.eval ⟨some d,.buildSlice T n b,ty,pos,af,g⟩).run P w= .ok (.value (.slice (some ⟨w.heap.size,0,none⟩) n n)) (w.alloc (.cells c E)):=by
  have U:=aE hsz
  have H:¬(n*e.wd > 2 ^ 24):=by omega
  simp only[execOp,Instr.buildSlice,aw,run_underlying hT,aG,Yw hE]
  rw[if_neg H]
  by_cases L:n*e.wd=0
  ·rw[if_pos L] at M ⊢
   simp only[aY,aG,aw]
   rw[j,M]
   simp[newRow,aw]
  ·rw[if_neg L] at M ⊢
   simp only[aY,aG,aw,XP hz]
   rw[j,M]
   simp[newRow,aw]
 unfold Oper.wp
 rw[I,Oper.upon_value]
 have k:xs.length=n:=by omega
 have C:c.toList=vs.flatMap fun v=>v.cells.toList:=by rw[k2];simp
 have h:c.size=n*e.wd:=by rw[show c.size=c.toList.length by simp,C,O.len,k]
 have B:∀g,g<w.heap.size→(w.alloc (.cells c E)).heap[g]? =w.heap[g]? :=fun g D=>Below.heap_alloc w _ g D
 have G:n≤maxLen:=by
  have hw:=Xw e
  have U:=aE hsz
  have:n*1≤n*e.wd:=Nat.mul_le_mul_left _ hw
  unfold maxLen;omega
 have S:∀g,gh.N g→gh.N g∧(w.alloc (.cells c E)).heap[g]? =w.heap[g]? :=fun g X=>⟨X,B g (r.cx.nl g X)⟩
 refine hK _ _ ⟨_,(r.takeR (R:=zrR E e xs) (u:= .slice (some ⟨w.heap.size,0,none⟩) n n) (f:=[w.heap.size]) [] (by simp) hfr hk0 ⟨_,⟨?_,.inr ⟨w.heap.size,n,c,by rw[k],aL _,heap_alloc_new w _,by omega,G,h,?_⟩⟩,O.mono S,.inr ⟨_,rfl,rfl⟩⟩ (by simp) (fun g D=> .inl (by simp at D;omega)) ⟨rfl,rfl,rfl,by simp⟩ fun g D _=>B g D).put (aE hn) (pv:=lf (.ref t)) ⟨_,rfl,fun _=>(Yc ..).symm⟩⟩
 ·exact O.len
 ·rw[← C];exact aP (by rw[show c.toList.length=c.size by simp,h,k];exact aO _)
theorem Vn (t:Nat){q k:Nat}{E:TypeId}{e:Ty}{xs ys:List e.Den}(D:Evl A s x (.ref q))(G:s.tab.ent q=some (.res (zrR E e xs)))(hy:Evl A s y (.ref k))(l:s.tab.ent k=some (.res (zrR E e ys)))(a6:0<ys.length)
 (hT:P.underlying T=some (.slice E)) (hE:X1 P E e.wd=true) (hb:xs.length+ys.length≤1073741824) (hn:Nat.blt d A.n=true) (hfr:Fresh s t) (hk0:A.k0≤t):
 Does A P ⟨some d,.call {callee:= .builtin .append,args:= #[x,y],argTypes:= #[T,T]},ty,pos,af,g⟩ s ⟨(d,lf (.ref t))::s.tm,(t,some (.res (zrR E e (xs++ys))))::(W5 [q,k]++s.tab)⟩:=fun a w K Q r hK=>by
 obtain ⟨gh,r⟩:=r
 obtain ⟨S,r1,r2,r3⟩:(zrR E e xs).rel gh.N w (gh.f q) (gh.h q):=r.cx.en q _ G
 obtain ⟨c,W,X,n3⟩:(zrR E e ys).rel gh.N w (gh.f k) (gh.h k):=r.cx.en k _ l
 rcases W.2 with ⟨_,F⟩|⟨g2,I,a0,v2,_,m1,m2,m3,m4,m5⟩
 ·omega
 obtain ⟨i,z,i1,i2,i3,i4,i5⟩:=Qbh hE
 have L:(xs.length+ys.length)*i.bytes≤140737488355328:=by
  calc (xs.length+ys.length)*i.bytes≤1073741824*65536:=cE (by omega) i4
   _≤140737488355328:=by decide
 obtain ⟨Y,w',Z,O,p,a4,o⟩:=run_append_own_at (P:=P) (w:=w) 0 T ty E i z e.wd i.bytes hT i1 i2 i3 rfl i5 (Xw e) (gh.h q) xs.length S r1 ⟨g2,0,none⟩ ys.length I c W.1 (fun j u H=>by
  rw[Addr.add_lit,bw]
  rw[← m5,bc] at H
  split at H
  ·simp only[World.cell?,m1]
   simpa using H
  ·cases H) (ZL.one X) (by unfold maxLen;omega) L (aL _)
 have C:∀g,(gh.h q).ownBlock=some g→g∈gh.f q:=fun g b=>by
  rcases r3 with ⟨F,_⟩|⟨g',F,h'⟩
  ·rw[F] at b;cases b
  ·rw[F] at b;cases b;rw[h'];simp
 have B:∀g,g<w.heap.size→g∉gh.f q→w'.heap[g]? =w.heap[g]? :=fun g b D=>p.block g b fun h9=>D (C g h9.symm)
 have v:∀g,gh.N g→gh.N g∧w'.heap[g]? =w.heap[g]? :=fun g J=>⟨J,B g (r.cx.nl g J) fun h=>r.cx.no q ⟨_,G⟩ g h J⟩
 have M:Y.ownBlock≠none:=fun h=>by
  rcases O.2 with ⟨V,h2⟩|⟨g,_,_,V,_⟩
  ·omega
  ·rw[V] at h;cases h
 obtain ⟨U,m⟩:=Option.ne_none_iff_exists'.1 M
 refine Hf rfl (by rw[show a.eval x=gh.h q from D gh a w r ⟨_,G⟩,show a.eval y=gh.h k from hy gh a w r ⟨_,l⟩,v2];exact Z) (hK _ _ ⟨_,(r.takeR (R:=zrR E e (xs++ys)) (u:=Y) (f:=[U]) [q,k] (by simp only[aJ,bN,or_false];rintro _ (rfl|rfl);exact ⟨_,G⟩;exact ⟨_,l⟩) hfr hk0 ⟨S++c,by rw[ah];exact O,(r2.mono v).app (X.mono v),.inr ⟨U,m,rfl⟩⟩ (by simp) (fun g b=> ?_) ⟨p.os,p.tape,p.output,p.size⟩ fun g b D=>B g b (D q (by simp))).put (aE hn) (pv:=lf (.ref t)) ⟨_,rfl,fun _=>(Yc ..).symm⟩⟩)
 rw[aF] at b
 subst b
 rcases o with o|o
 ·exact .inr ⟨q,by simp,C g (by rw[← o];exact m)⟩
 ·rw[m] at o;cases o;exact .inl (aO _)
theorem ZL.rd {N:Nat→Prop}{w:World}{E:TypeId}{e:Ty}{v:Value}{cs:List Value}{xs:List e.Den}{f:List Nat}(J:w.ownsRow 0 E e.wd v xs.length cs)(K:ZL N w e cs xs)(p:(v.ownBlock=none∧f=[])∨∃g,v.ownBlock=some g∧f=[g]):
 Rd (fun g=>N g∨g∈f) (.sl E e) w [v] xs:=by
 obtain ⟨M,I,o⟩:=VU (fun g=>N g∨g∈f) w
 refine ⟨M,I,?_⟩
 rcases J.2 with ⟨a,k⟩|⟨g,i,r,a,_,k,z,B,O,C⟩
 ·obtain rfl:=bi k
  exact ⟨none,0,by rw[a];rfl,aO _,aL _,fun h=>absurd h (by simp)⟩
 ·refine ⟨_,i,by rw[a],z,B,fun _=>⟨g,0,rfl,fun j y G=> ?_⟩⟩
  obtain ⟨t,⟨Q,L,w2⟩,H⟩:=K.get j y G
  refine ⟨t,w2.kp (L.kp fun n l=>o n (.inl l)),fun b u F=> ?_⟩
  have c:=H b u F
  rw[← C,bc] at c
  have m:g∈f:=by
   rw[a] at p
   rcases p with ⟨h,_⟩|⟨n,h,D⟩
   ·cases h
   ·cases h;rw[D];simp
  split at c
  ·rw[cK (o g (.inr m))]
   simp only[World.cell?,k]
   simpa using c
  ·cases c
theorem Qjs {p off q:Nat}{E' E:TypeId}{cs:List LV}{e:Ty}{xs:List e.Den}(k:s.tab.ent p=some (.box E' cs))(K:cs[off]? =some (.ref q))(j:s.tab.ent q=some (.res (zrR E e xs))):
 Wk A s ⟨s.tm,(p,some (.box E' (splice cs off [.dat (.sl E e) xs])))::(q,none)::s.tab⟩:=fun a w r=>by
 obtain ⟨gh,r⟩:=r
 have n:p≠q:=fun h=>by rw[h,j] at k;cases k
 obtain ⟨g,b,t,F,u,G⟩:=r.cx.en p _ k
 obtain ⟨v,H,I⟩:=G.nth K
 have L:v=gh.h q:=I ⟨_,j⟩
 obtain ⟨V,O,Q,R⟩:(zrR E e xs).rel gh.N w (gh.f q) (gh.h q):=r.cx.en q _ j
 have i:Tab.ent ((q,none)::s.tab) p=some (.box E' cs):=by rw[Qg,if_neg n];exact k
 have D:=r.freeze j
 obtain ⟨S,o,B,U,C,M⟩:=D.cx.en p _ i
 rw[show gh.h p=_ from t] at B
 cases B
 rw[u] at C
 cases C
 have J:LVs (Tab.al ((q,none)::s.tab)) ⟨gh.h,gh.f,fun g=>gh.N g∨g∈gh.f q⟩ w [.dat (.sl E e) xs] [v]:=⟨v,[],rfl,by rw[L];exact ZL.rd O Q R,rfl⟩
 have z:=M.splice J (off:=off)
 have c:b.toList.take off++[v]++b.toList.drop (off+[v].length)=b.toList:=by
  have l:=(ai.1 H)
  obtain ⟨l,m⟩:=l
  conv=>rhs;rw[← bL (off+1) b.toList,bQ l,m]
  rfl
 rw[c] at z
 exact ⟨_,D.mod i (Zl w) (fun _ _ _=>rfl) ⟨g,b,t,F,u,z⟩⟩
theorem ZL.parts {N:Nat→Prop}{w:World}{e:Ty}:∀{xs:List e.Den} {cs:List Value} {i:Nat} {x:e.Den},ZL N w e cs xs→xs[i]? =some x→
 ∃b j c,cs=b++(j++c)∧b.length=i*e.wd∧Rd N e w j x∧∀w' a y,(∀g,N g→w'.heap[g]? =w.heap[g]?)→Rd N e w' a y→ZL N w' e (b++(a++c)) (xs.set i y)
 | [],_,_,_,_,h=>by simp at h
 | x0::xs,_,0,x,⟨c1,c2,h2,h3,h4⟩,hx=>by
  cases hx
  exact ⟨[],c1,c2,h2,by simp,h3,fun w' a y k l=>⟨a,c2,rfl,l,h4.mono fun g f=>⟨f,k g f⟩⟩⟩
 | x0::xs,_,i+1,x,⟨c1,c2,h2,h3,h4⟩,hx=>by
  obtain ⟨b,j,c,m,n,o,p⟩:=h4.parts (i:=i) hx
  refine ⟨c1++b,j,c,by rw[h2,m,aR],by rw[ah,h3.rep.len,n,bK];omega,o,fun w' a y k l=> ?_⟩
  exact ⟨c1,b++(a++c),by rw[aR],h3.mono fun g f=>⟨f,k g f⟩,p w' a y k l⟩
theorem QbT {q:Nat}{E E':TypeId}{e:Ty}{l:List e.Den}(z:Evl A s x (.ref q))(o:s.tab.ent q=some (.res (zrR E e l)))(v:Nat.blt d A.n=true)(j:P.underlying T=some (.slice E')):
 Does A P ⟨some d,.call ⟨.builtin .len,#[x],#[T]⟩,ty,pos,af,g⟩ s (s.put d (lf (dI l.length))):=
 Qi rfl v fun gh a w r=>by
  have k:a.eval x=gh.h q:=z gh a w r ⟨_,o⟩
  obtain ⟨C,B,_,_⟩:(zrR E e l).rel gh.N w (gh.f q) (gh.h q):=r.cx.en q _ o
  have m:P.elem T=E':=by simp[Program.elem,j]
  rcases B.2 with ⟨i,t⟩|⟨b,c,p,i,_,_,D,u,_⟩
  ·refine ⟨.int .i64 (0:Nat),?_,_,rfl,by rw[t];exact Yi (by decide)⟩
   simp only[execOp,resolve,invoke,builtin]
   simp[aw,k,i,run_len_slice w T ty none 0 0 (by rw[m];exact j),goInt]
  ·refine ⟨.int .i64 l.length,?_,_,rfl,Yi (by unfold maxLen at u;omega)⟩
   simp only[execOp,resolve,invoke,builtin]
   simp[aw,k,i,run_len_slice w T ty _ l.length c (by rw[m];exact j),goInt]
theorem Ut {E E':TypeId}{e:Ty}{q:Nat}{l:List e.Den}{i:Int}{m:Bool}(B:Evl A s x (.ref q))(k:s.tab.ent q=some (.res (zrR E e l)))(C:Evl A s y (dI i))(t:P.underlying T=some (.slice E'))(p:tsh P E'=some (m,e.wd))(v:Nat.blt d A.n=true)
 (h0:0≤i) (h1:i<l.length):Does A P ⟨some d,.indexAddr T x y,ty,pos,af,g⟩ s (s.put d (lf (.ept q e.wd i.toNat 0))):=
 Qi rfl v fun gh a w r=>by
  have u:=C.i r
  have z:a.eval x=gh.h q:=B gh a w r ⟨_,k⟩
  obtain ⟨F,D,_,_⟩:(zrR E e l).rel gh.N w (gh.f q) (gh.h q):=r.cx.en q _ k
  rcases D.2 with ⟨_,h⟩|⟨b,c,o,j,_⟩
  ·omega
  ·refine ⟨.pointer (some ⟨b,0+i.toNat*e.wd,none⟩),?_,_,rfl,fun _=>⟨b,l.length,c,j,by simp⟩⟩
   simp only[execOp,z,j,u,aw,X4 t p h0 h1]
   simp
theorem Rg.storeR {gh:Gh}{a:Act}{w:World}{K:Act→World→Prop}{Q:Exit→Act→World→Prop}{q i j:Nat}{E:TypeId}{e:Ty}{xs:List e.Den}{z z':e.Den}{ls:List LV}{b:Bool}(r:Rg A s gh a w)
 (hx:∃g n c,gh.h q= .slice (some ⟨g,0,none⟩) n c∧a.eval x= .pointer (some ⟨g,i*e.wd+j,none⟩)) (I:s.tab.ent q=some (.res (zrR E e xs))) (hz:xs[i]? =some z)
 (hv:CmR s.tab.al gh w (b,ls) (a.eval y)) (hk:Zj s.tab ls=true) (hT:tsh P T=some (b,ls.length)) (hl:Nat.ble (j+ls.length) e.wd=true) (hs:leaves e z'=splice (leaves e z) j ls)
 (hK:∀a' w',R A ⟨s.tm,(q,some (.res (zrR E e (xs.set i z'))))::s.tab⟩ a' w'→K a' w'):Oper.wp P ⟨none,.store T x y,ty,pos,af,g⟩ a w K Q:=by
 obtain ⟨g,m,c,G,h2⟩:=hx
 obtain ⟨cs,r1,r2,r3⟩:(zrR E e xs).rel gh.N w (gh.f q) (gh.h q):=r.cx.en q _ I
 have L:=(ai.1 hz).1
 rcases r1.2 with ⟨_,h⟩|⟨t,a2,u,p3,_,p4,p5,p6,p7,p8⟩
 ·omega
 rw[G] at p3
 simp only[Value.slice.injEq,bp,Addr.mk.injEq,and_true] at p3
 obtain ⟨rfl,rfl,rfl⟩:=p3
 obtain ⟨k,h7,S⟩:=CmR.cells hv fun hb=>by
  subst hb
  obtain ⟨l,rfl,G⟩:=hv
  simp only[Zj,cW] at hk
  obtain ⟨h3,h4⟩:=WN hk
  exact G.oneCell h4 h3 fun q ⟨e,I⟩=>(r.cx.en q e I).oneCell
 have h9:k.length=ls.length:=S.len
 have a4:=aE hl
 obtain ⟨B,p,v,k2,k3,k4,k5⟩:=r2.parts hz
 have a3:=k4.rep.len
 have a1:i*e.wd+e.wd≤xs.length*e.wd:=by
  calc i*e.wd+e.wd=(i+1)*e.wd:=by rw[bK,cJ]
   _≤xs.length*e.wd:=cc _ L
 have a0:xs.length*e.wd≤u.size:=by rw[p7];exact cc _ p5
 have O:=Vu (P:=P) (w:=w) (b:=g) (o:=i*e.wd+j) hT (a.eval y) k h7 h9 p4 (by omega) (S.oneCells r.cx hk)
 have M:(execOp a.eval ⟨none,.store T x y,ty,pos,af,‹_›⟩).run P w= .ok .skip (XO w g (i*e.wd+j) k):=by
  simp only[execOp,h2,Instr.storeAt,Instr.sureAddr,aw,aY,aG,O]
 unfold Oper.wp
 rw[M,Oper.upon_skip]
 obtain ⟨F,m1,m2,m3⟩:=W3 g E (0,0) k w (i*e.wd+j) u p4 (by omega)
 have D:∀t,t≠g→(XO w g (i*e.wd+j) k).heap[t]? =w.heap[t]? :=fun t h=>YD _ _ _ _ _ h
 have J:g∈gh.f q:=by
  rw[G] at r3
  rcases r3 with ⟨h,_⟩|⟨g',h,h'⟩
  ·cases h
  ·cases h;rw[h'];simp
 have H:∀t,gh.N t→(XO w g (i*e.wd+j) k).heap[t]? =w.heap[t]? :=fun t h=>D t fun M=>r.cx.no q ⟨_,I⟩ g J (M▸h)
 have X:Rd gh.N e (XO w g (i*e.wd+j) k) (p.take j++k++p.drop (j+k.length)) z':=by
  have q1:LVs s.tab.al gh w (leaves e z) p:=Rd.leaves k4
  have q2:=q1.splice S (off:=j)
  rw[← hs] at q2
  exact (LVs.rd q2).mono fun t h0=>⟨h0,H t h0⟩
 have C:=k5 _ _ z' H X
 have W:cs.length=xs.length*e.wd:=r1.1
 refine hK _ _ ⟨gh,r.mod I (Uf _ _ _ _) (fun t _ Y=>D t fun h=>Y (h▸J)) ⟨_,⟨?_,.inr ⟨g,c,F,?_,aL _,m1,by simpa using p5,p6,by rw[m2];exact p7,?_⟩⟩,C,r3⟩⟩
 ·rw[C.len]
 ·rw[G];simp
 ·rw[aD,m3]
  have e3:u.toList=B++(p++v)++u.toList.drop (xs.length*e.wd):=by rw[← k2,← p8,bL]
  have V:(B++(p++v)).length=xs.length*e.wd:=by rw[← k2];exact W
  have U:v.length=xs.length*e.wd - (i*e.wd+e.wd):=by simp only[ah] at V;omega
  generalize u.toList.drop (xs.length*e.wd)=rest at e3
  rw[e3]
  have t1:(B++(p++v)++rest).take (i*e.wd+j)=B++p.take j:=by
   rw[aR,aR,← k3,List.take_length_add_append,List.take_append_of_le_length (by omega)]
  have t2:(B++(p++v)++rest).drop (i*e.wd+j+k.length)=p.drop (j+k.length)++(v++rest):=by
   rw[aR,aR,← k3,bS,List.drop_length_add_append,List.drop_append_of_le_length (by omega)]
  rw[t1,t2]
  have Z:(B++((p.take j++k++p.drop (j+k.length))++v)).length=xs.length*e.wd:=by
   simp only[ah,ap,aX,k3,U]
   omega
  rw[show B++List.take j p++k++(List.drop (j+k.length) p++(v++rest))=(B++((p.take j++k++p.drop (j+k.length))++v))++rest by simp,← Z,dq]
theorem QcP {q i j:Nat}{E:TypeId}{e:Ty}{xs:List e.Den}{z z':e.Den}{ls:List LV}{b:Bool}(h:Evl A s x (.ept q e.wd i j))(c:s.tab.ent q=some (.res (zrR E e xs)))(k:xs[i]? =some z)
 (hy:Ev A s y (b,ls)) (hk:Zj s.tab ls=true) (hT:tsh P T=some (b,ls.length)) (hl:Nat.ble (j+ls.length) e.wd=true) (hs:leaves e z'=splice (leaves e z) j ls):
 Does A P ⟨none,.store T x y,ty,pos,af,g⟩ s ⟨s.tm,(q,some (.res (zrR E e (xs.set i z'))))::s.tab⟩:=fun a w K Q r f=>by
 obtain ⟨gh,r⟩:=r
 exact r.storeR (h gh a w r ⟨_,c⟩) c k (hy gh a w r) hk hT hl hs f
theorem Qa2 {q c i j:Nat}{E m:TypeId}{e k:Ty}{xs:List e.Den}{ys:List k.Den}{z z':e.Den}(v:Evl A s x (.ept q e.wd i j))(n:s.tab.ent q=some (.res (zrR E e xs)))(B:xs[i]? =some z)
 (hy:Evl A s y (.ref c)) (he2:s.tab.ent c=some (.arr m k ys)) (hne:Nat.beq q c=false) (hT:tsh P T=some (false,1)) (hl:Nat.ble (j+1) e.wd=true) (hs:leaves e z'=splice (leaves e z) j [.dat (.sl m k) ys]):
 Does A P ⟨none,.store T x y,ty,pos,af,g⟩ s ⟨s.tm,(q,some (.res (zrR E e (xs.set i z'))))::(c,none)::s.tab⟩:=fun a w K Q r o=>by
 have l:q≠c:=fun h=>by rw[h,dl] at hne;cases hne
 obtain ⟨gh,r⟩:=r
 have p:Own (.sl m k) w (gh.f c) [gh.h c] ys:=r.cx.en c _ he2
 have u:a.eval y=gh.h c:=hy gh a w r ⟨_,he2⟩
 exact (r.freeze he2).storeR (v gh a w r ⟨_,n⟩) (by rw[Qg,if_neg l];exact n) B (ls:=[.dat (.sl m k) ys]) (b:=false) ⟨_,rfl,by rw[u];exact p.rd fun g t=> .inr t⟩ rfl hT hl hs o
end
def LV.thawR (T:Tab)(q0:Nat)(l0:LV):LV→LV
 | .ref q=>if q=q0 then l0 else (LV.ref q).thaw T
 | l=>l
def PV.thawR (T:Tab)(q0:Nat)(l0:LV):PV→PV
 | .cm b ls=> .cm b (ls.map (LV.thawR T q0 l0))
 | .tup cs=> .tup (cs.map fun c=>(c.1,c.2.map (LV.thawR T q0 l0)))
section
variable {T:Tab}{gh:Gh}{w:World}{q0:Nat}{E:TypeId}{e:Ty}{xs:List e.Den}
theorem LVR.thawR (a:Cx T gh w)(b:T.ent q0=some (.res (zrR E e xs))){l:LV}{v:Value}(h:LVR T.al gh w l v):LVR (Tab.al []) ⟨gh.h,gh.f,fun g=>gh.N g∨∃q,T.al q∧g∈gh.f q⟩ w (LV.thawR T q0 (.dat (.sl E e) xs) l) v:=by
 cases l with
 | ref q=>
  simp only[LV.thawR]
  split
  ·rename_i c
   subst c
   have j:v=gh.h q:=h ⟨_,b⟩
   obtain ⟨o,k,m,n⟩:(zrR E e xs).rel gh.N w (gh.f q) (gh.h q):=a.en q _ b
   rw[j]
   exact (ZL.rd k m n).mono fun g i=>⟨i.imp id fun h=>⟨q,⟨_,b⟩,h⟩,rfl⟩
  ·exact LVR.thaw a h
 | _=>exact LVR.thaw a h
theorem LVs.thawR (a:Cx T gh w)(i:T.ent q0=some (.res (zrR E e xs))){ls:List LV}{vs:List Value}(h:LVs T.al gh w ls vs):LVs (Tab.al []) ⟨gh.h,gh.f,fun g=>gh.N g∨∃q,T.al q∧g∈gh.f q⟩ w (ls.map (LV.thawR T q0 (.dat (.sl E e) xs))) vs:=by
 induction ls generalizing vs with
 | nil=>exact h
 | cons l ls j=>obtain ⟨v,k,rfl,b,c⟩:=h;exact ⟨v,_,rfl,b.thawR a i,j c⟩
theorem CmR.thawR (i:Cx T gh w)(j:T.ent q0=some (.res (zrR E e xs))){c:Bool×List LV}{v:Value}(h:CmR T.al gh w c v):CmR (Tab.al []) ⟨gh.h,gh.f,fun g=>gh.N g∨∃q,T.al q∧g∈gh.f q⟩ w (c.1,c.2.map (LV.thawR T q0 (.dat (.sl E e) xs))) v:=by
 obtain ⟨b,m⟩:=c
 cases b with
 | true=>obtain ⟨k,rfl,a⟩:=h;exact ⟨k,rfl,a.thawR i j⟩
 | false=>obtain ⟨l,rfl,a⟩:=h;exact ⟨_,rfl,a.thawR i j⟩
theorem PVR.thawR (i:Cx T gh w)(k:T.ent q0=some (.res (zrR E e xs))){pv:PV}{v:Value}(h:PVR T.al gh w pv v):PVR (Tab.al []) ⟨gh.h,gh.f,fun g=>gh.N g∨∃q,T.al q∧g∈gh.f q⟩ w (pv.thawR T q0 (.dat (.sl E e) xs)) v:=by
 cases pv with
 | cm b p=>exact CmR.thawR i k (c:=(b,p)) h
 | tup a=>
  obtain ⟨l,rfl,j⟩:=h
  refine ⟨l,rfl,?_⟩
  induction a generalizing l with
  | nil=>exact j
  | cons c a o=>obtain ⟨v,r,rfl,m,n⟩:=j;exact ⟨v,_,rfl,m.thawR i k,o _ n⟩
end
theorem KC (q0:Nat){P:Program}{f:FuncId}{args:List (Bool×List LV)}{pv:PV}{T:Tab}{E:TypeId}{e:Ty}{xs:List e.Den}(h:FC P f args [] 0 (Is pv T))(m:T.ent q0=some (.res (zrR E e xs))):FC P f args [] 0 (QK (pv.thawR T q0 (.dat (.sl E e) xs))):=fun gh w r k l=>
 Calls.mono (h gh w r k l) fun u w' j=>by
  obtain ⟨v,o,t,gh',rfl,⟨rfl,rfl⟩,b,n,i,_⟩:=j
  refine ⟨v,_,[],_,rfl,⟨rfl,rfl⟩,Wj ZF _ _ fun g a=> ?_,n.thawR b m,⟨i.gw,i.kp,fun g a=> ?_,fun q c=>absurd c (ZF q)⟩,fun q c=>absurd c (by omega)⟩
  ·rcases a with a|⟨q,c,a⟩
   ·exact b.nl g a
   ·exact b.lt c g a
  ·rcases a with a|⟨q,c,a⟩
   ·exact i.nn g a
   ·rcases i.ox q c g a with h|⟨p,h,_⟩
    ·exact .inr (.inl h)
    ·exact absurd h (ZF p)
def LV.th1 (q0:Nat)(l0:LV):LV→LV
 | .ref q=>if q=q0 then l0 else .ref q
 | l=>l
def PV.th1 (q0:Nat)(l0:LV):PV→PV
 | .cm b ls=> .cm b (ls.map (LV.th1 q0 l0))
 | .tup cs=> .tup (cs.map fun c=>(c.1,c.2.map (LV.th1 q0 l0)))
section
variable {A:Amb}{s:St}{q:Nat}{E:TypeId}{e:Ty}{xs:List e.Den}{al al':Nat→Prop}{gh gh':Gh}{w:World}{l0:LV}
theorem LVs.th1 (a:∀l v,LVR al gh w l v→LVR al' gh' w (LV.th1 q l0 l) v):∀{ls:List LV} {vs:List Value},LVs al gh w ls vs→LVs al' gh' w (ls.map (LV.th1 q l0)) vs
 | [],_,h=>h
 | _::_,_,⟨v,vs',h0,h1,h2⟩=>⟨v,vs',h0,a _ _ h1,LVs.th1 a h2⟩
theorem CmR.th1 (f:∀l v,LVR al gh w l v→LVR al' gh' w (LV.th1 q l0 l) v){c:Bool×List LV}{v:Value}(h:CmR al gh w c v):CmR al' gh' w (c.1,c.2.map (LV.th1 q l0)) v:=by
 obtain ⟨b,j⟩:=c
 cases b with
 | true=>obtain ⟨i,rfl,a⟩:=h;exact ⟨i,rfl,LVs.th1 f a⟩
 | false=>obtain ⟨l,rfl,a⟩:=h;exact ⟨_,rfl,f _ _ a⟩
theorem CmsR.th1 (a:∀l v,LVR al gh w l v→LVR al' gh' w (LV.th1 q l0 l) v):∀{cs:List (Bool×List LV)} {vs:List Value},CmsR al gh w cs vs→CmsR al' gh' w (cs.map fun c=>(c.1,c.2.map (LV.th1 q l0))) vs
 | [],_,h=>h
 | _::_,_,⟨v,vs',h0,h1,h2⟩=>⟨v,vs',h0,CmR.th1 a h1,CmsR.th1 a h2⟩
theorem PVR.th1 (a:∀l v,LVR al gh w l v→LVR al' gh' w (LV.th1 q l0 l) v){pv:PV}{v:Value}(h:PVR al gh w pv v):PVR al' gh' w (pv.th1 q l0) v:=by
 cases pv with
 | cm b i=>exact CmR.th1 a (c:=(b,i)) h
 | tup k=>obtain ⟨j,rfl,f⟩:=h;exact ⟨j,rfl,CmsR.th1 a f⟩
theorem QqQ {i:Nat}{pv:PV}{c:Ent}(hi:lk s.tm i=some pv)(b:s.tab.ent q=some c)(p:∀gh w,EntR s.tab.al gh w q c→Rd (fun g=>gh.N g∨g∈gh.f q) (.sl E e) w [gh.h q] xs):
 Wk A s ⟨(i,pv.th1 q (.dat (.sl E e) xs))::s.tm,(q,none)::s.tab⟩:=fun a w r=>by
 obtain ⟨gh,r⟩:=r
 obtain ⟨v,n,o⟩:=r.tm i _ hi
 have t:=p gh w (r.cx.en q _ b)
 refine ⟨_,(r.freeze b).know n (PVR.th1 (fun l v k=> ?_) o)⟩
 by_cases j:l= .ref q
 ·subst j
  have u:v=gh.h q:=k ⟨_,b⟩
  simp only[LV.th1,if_pos]
  rw[u];exact t
 ·have m:LV.th1 q (.dat (.sl E e) xs) l=l:=by
   cases l with
   | ref z=>simp only[LV.th1];rw[if_neg fun h=>j (by rw[h])]
   | _=>rfl
  rw[m]
  exact k.mono (fun z _ h=>by
   obtain ⟨x,h⟩:=h
   rw[Qg] at h
   split at h
   ·cases h
   ·exact ⟨⟨x,h⟩,rfl⟩) fun g h=>⟨.inl h,rfl⟩
theorem Wk.thawR {i:Nat}{pv:PV}(hi:lk s.tm i=some pv)(a:s.tab.ent q=some (.res (zrR E e xs))):Wk A s ⟨(i,pv.th1 q (.dat (.sl E e) xs))::s.tm,(q,none)::s.tab⟩:=
 QqQ hi a fun gh w ⟨_,b,c,f⟩=>ZL.rd b c f
end
end Go.Proofs.YtjfpbcmfbnnooaaGreat
namespace Go.Proofs.YtjfpbcmfbnnooaaGreat
open Go.RowKit
set_option maxRecDepth 100000
set_option maxHeartbeats 4000000
def swL (as_:List DAr)(l:Int×Bool):List Int:=(as_.filter fun a=>decide (a.2.1=l.1∧a.2.2.1=l.2)).map fun a=>a.2.2.2
def XN (c:DSg)(sig:Int):Bool:=decide (0≤sig)&&decide (((c.1[sig.toNat]?).getD (ByteArray.empty,0)).2=1)
def QD (l:List Qy)(k:Nat):List Int:=((List.range k).filter fun i=> !decide (((l[i]?).getD (ByteArray.empty,0)).2=1)).map fun i=>((i:Nat):Int)
def QB4 (c:DSg):ByteArray:=if Zf (fun x:Qy=>decide (x.1=(⟨#[122,48]⟩:ByteArray))) c.1<0 then ⟨#[122,48]⟩ else if Zf (fun x:Qy=>decide (x.1=(⟨#[122,49]⟩:ByteArray))) c.1<0 then ⟨#[122,49]⟩ else ⟨#[122,50]⟩
section
variable {c:DSg}{l:List Int}{as_:List DAr}{a:DAr}{p:Int×Bool}{k:Nat}{n m y sig:Int}{x:Qy}{ss:List Qy}
theorem QcA (b:ss[k]? =some x)(h:¬x.2=1):QD ss k++[(k:Int)]=QD ss (k+1):=by
 unfold QD
 rw[bO,bE,bB];simp[b,h]
theorem QfV (b:ss[k]? =some x)(h:x.2=1):QD ss k=QD ss (k+1):=by
 unfold QD
 rw[bO,bE,bB];simp[b,h]
theorem Y0:(QD ss k).length≤k:=by unfold QD;rw[aH];exact bh (cq ..) (by simp)
theorem Qcz:y∈QD ss k↔∃i:Nat,y=(i:Int)∧i<k∧¬((ss[i]?).getD (ByteArray.empty,0)).2=1:=by
 unfold QD
 simp only[bd,bP,bH,bT,decide_eq_false_iff_not]
 constructor
 ·rintro ⟨i,⟨b,d⟩,rfl⟩;exact ⟨i,rfl,b,d⟩
 ·rintro ⟨i,rfl,b,d⟩;exact ⟨i,⟨b,d⟩,rfl⟩
theorem QnS (h:¬0≤sig):false=XN c sig:=by unfold XN;rw[ay h];rfl
theorem QfE (h:0≤sig)(b:c.1[sig.toNat]? =some x):decide (x.2=1)=XN c sig:=by unfold XN;rw[aN h,b];rfl
theorem QxN (b:∀j:Nat,(j:Int)<m→∀y,l[j]? =some y→y<n)(h:l[m.toNat]? =some n):l=Zg ltI n l:=
 (QcD (k:=m.toNat) (fun j e y d=>by have:=b j (by omega) y d;simp[ltI,this]) h (by simp[ltI])).symm
theorem QxM (d:∀j:Nat,(j:Int)<m→∀y,l[j]? =some y→y<n)(h0:0≤m)(e:m≤(l.length:Int))(h:∀y,l[m.toNat]? =some y→¬y<n∧y≠n):l.take m.toNat++n::l.drop m.toNat=Zg ltI n l:=
 (QiL (k:=m.toNat) (fun j f y b=>by have:=d j (by omega) y b;simp[ltI,this]) (by omega) fun y b=>by have:=h y b;simp[ltI,this]).symm
theorem Qoq (d:∀j:Nat,(j:Int)<m→∀y,l[j]? =some y→y<n)(h0:0≤m)(b:m≤(l.length:Int))(h:∀y,l[m.toNat]? =some y→¬y<n∧y≠n):
 (([]++(l.take (0+m.toNat)).drop 0)++[n])++(l.take (m.toNat+(l.length - m.toNat))).drop m.toNat=Zg ltI n l:=by
 rw[← QxM d h0 b h,show m.toNat+(l.length - m.toNat)=l.length by omega,dy]
 simp
abbrev QBA:List ByteArray:=[(⟨#[122,48]⟩:ByteArray),(⟨#[122,49]⟩:ByteArray)]
end
theorem H4 (l:List Int)(n:Int)(I:l.length≤1000000000):FC Tryz.prog 258 [(false,[.ref 0]),(false,[dI n])] [ar 0 3 .int l] 0 (Xv 3 .int (Zg ltI n l)):=by
 refine Qj Tryz.func258 rfl rfl Tryz.ntmps258 fun G q F w H B A=> ?_
 refine acI 1 fun _=> ?_
 refine w8 ?_
 refine Qu (fun u v=>∃(m:Int),u=((l.length:Int) - m).toNat∧(0≤m∧m≤(l.length:Int))∧(∀j:Nat,(j:Int)<m→∀y,l[j]? =some y→y<n)∧v=⟨[(0,lR 0),(1,lI n),(4,lf (.val (.slice none 0 0))),(5,lI m)],[ar 0 3 .int l]⟩) ⟨0,rfl,(by omega),(fun j C=>by omega),rfl⟩ ?_ ?_
 exact wo []
 rintro u v ⟨m,D,J,o,rfl⟩
 refine w7 ?_
 cases d:(decide (m<(l.length:Int)))
 have f:=aa d
 refine w16 ?_
 refine w2 ?_
 have r:(decide (m<(l.length:Int)))=false:=d
 try rw[r]
 refine w11 ?_
 refine lc (dBs 1 (e:= .int) Xt) ?_
 refine w2 ?_
 refine lc (Zq (e:= .int) (a:=0) (b:=(m).toNat) (l:=none) (h:=(some m)) (Qa rfl) rfl (by exact trivial) (by exact (Qa rfl)) YV Wl rfl (by first|(simp only[ak,aj];omega)|omega|(simp only[ak,aj,ah,ap,az];omega)) (by first|(simp only[ak,aj];omega)|omega|(simp only[ak,aj,ah,ap,az];omega)) (by first|(simp only[ak,aj];omega)|omega|(simp only[ak,aj,ah,ap,az];omega)) (by first|rfl|simp) (by first|rfl|simp))<|lc (Zi 2 (Qa rfl) rfl (VH (e:= .int) (Qa rfl) rfl (by omega)) rfl YV Vh (by first|omega|(simp only[ah,aH,ap,av,aC];omega)|(simp only[ah,aX,ap,av,aC];omega)) rfl (Fresh.of rfl) (nlr rfl)) ?_
 refine w5 ?_
 refine lc (dBs 3 (e:= .int) Xt) ?_
 refine lc (dA 4 Vh) ?_
 refine w6 ?_
 refine lc (Zq (e:= .int) (a:=(m).toNat) (b:=l.length - (m).toNat) (l:=(some m)) (h:=none) (Qa rfl) rfl (by exact (Qa rfl)) (by exact trivial) YV Wl rfl (by first|(simp only[ak,aj];omega)|omega|(simp only[ak,aj,ah,ap,az];omega)) (by first|(simp only[ak,aj];omega)|omega|(simp only[ak,aj,ah,ap,az];omega)) (by first|(simp only[ak,aj];omega)|omega|(simp only[ak,aj,ah,ap,az];omega)) (by first|rfl|simp) (by first|rfl|simp))<|lc (Zi 5 (Qa rfl) rfl (VH (e:= .int) (Qa rfl) rfl (by omega)) rfl YV Vh (by first|omega|(simp only[ah,aH,ap,av,aC];omega)|(simp only[ah,aX,ap,av,aC];omega)) rfl (Fresh.of rfl) (nlr rfl)) ?_
 refine w2 ?_
 refine Qe<|fo_ q ?_
 exact Qoq o (by omega) (by omega) (fun z t=>by simp_all)
 have f:=ab d
 refine w3 ?_
 obtain ⟨y,E⟩:=gx l ((m).toNat)
 refine w5 ?_
 cases g:(decide (y<n))
 have i:=aa g
 refine w10 ?_
 have s:(decide (m<(l.length:Int)))=true:=d
 try rw[s]
 refine w8 ?_
 refine cd_ (fun _ _=> ?_) fun _ _=> ?_
 refine w2 ?_
 refine lc (dBs 6 (e:= .int) Xt) ?_
 refine w2 ?_
 refine lc (Zq (e:= .int) (a:=0) (b:=(m).toNat) (l:=none) (h:=(some m)) (Qa rfl) rfl (by exact trivial) (by exact (Qa rfl)) YV Wl rfl (by first|(simp only[ak,aj];omega)|omega|(simp only[ak,aj,ah,ap,az];omega)) (by first|(simp only[ak,aj];omega)|omega|(simp only[ak,aj,ah,ap,az];omega)) (by first|(simp only[ak,aj];omega)|omega|(simp only[ak,aj,ah,ap,az];omega)) (by first|rfl|simp) (by first|rfl|simp))<|lc (Zi 7 (Qa rfl) rfl (VH (e:= .int) (Qa rfl) rfl (by omega)) rfl YV Vh (by first|omega|(simp only[ah,aH,ap,av,aC];omega)|(simp only[ah,aX,ap,av,aC];omega)) rfl (Fresh.of rfl) (nlr rfl)) ?_
 refine w5 ?_
 refine lc (dBs 8 (e:= .int) Xt) ?_
 refine lc (dA 9 Vh) ?_
 refine w6 ?_
 refine lc (Zq (e:= .int) (a:=(m).toNat) (b:=l.length - (m).toNat) (l:=(some m)) (h:=none) (Qa rfl) rfl (by exact (Qa rfl)) (by exact trivial) YV Wl rfl (by first|(simp only[ak,aj];omega)|omega|(simp only[ak,aj,ah,ap,az];omega)) (by first|(simp only[ak,aj];omega)|omega|(simp only[ak,aj,ah,ap,az];omega)) (by first|(simp only[ak,aj];omega)|omega|(simp only[ak,aj,ah,ap,az];omega)) (by first|rfl|simp) (by first|rfl|simp))<|lc (Zi 10 (Qa rfl) rfl (VH (e:= .int) (Qa rfl) rfl (by omega)) rfl YV Vh (by first|omega|(simp only[ah,aH,ap,av,aC];omega)|(simp only[ah,aX,ap,av,aC];omega)) rfl (Fresh.of rfl) (nlr rfl)) ?_
 refine w2 ?_
 refine Qe<|fo_ q ?_
 exact Qoq o (by omega) (by omega) (fun z t=>by simp_all)
 refine w4 ?_
 refine Qe<|fo_ q ?_
 exact QxN o (by simp_all)
 have i:=ab g
 refine w7 ?_
 refine Qd<|QV ⟨(m+1),rfl,(by omega),(fun j C z t=>by by_cases e:j=m.toNat <;> first|(subst e;simp_all;done)|exact o j (by omega) z t),rfl⟩ (by omega) ?_
 exact wo []
theorem JV (l:List ByteArray)(o:l.length≤1000000000):FC Tryz.prog 288 [(false,[.dat Qb l])] [] 0 (Xv 9 .str l):=by
 refine Qj Tryz.func288 rfl rfl Tryz.ntmps288 fun i g h b j f d=> ?_
 refine w4 ?_
 refine lc (dBs 0 (e:= .str) Z3) ?_
 refine w_ ?_
 refine lc (Zi 1 (Qa rfl) rfl (Evl.rep (Qa rfl)) rfl Zz YW (by first|omega|(simp only[ah,aH,ap,av,aC];omega)|(simp only[ah,aX,ap,av,aC];omega)) rfl (Fresh.of rfl) (nlr rfl)) ?_
 refine w2 ?_
 refine Qe<|fo_ g ?_
 rfl
theorem K8 (c:ZM)(sig:Int)(r:sig<(c.1.length:Int)):FC Tryz.prog 275 [(true,[.dat Ql c.1,.dat Qb c.2.1,.dat QA c.2.2]),(false,[dI sig])] [] 0 (QK (lB (XN c sig))):=by
 refine Qj Tryz.func275 rfl rfl Tryz.ntmps275 fun o f j g q i h=> ?_
 refine acI 1 fun _=> ?_
 refine w_ ?_
 refine xbx 0 ?_
 refine w6 ?_
 cases b:(decide (0≤sig))
 have d:=aa b
 refine w10 ?_
 refine Qe<|fqB f ?_
 first|exact QnS ‹_›
 have d:=ab b
 refine w3 ?_
 obtain ⟨s,e⟩:=gx c.1 ((sig).toNat)
 refine w7 ?_
 refine Qe<|fqB f ?_
 exact QfE ‹_› e
theorem XS (c:ZM)(w:c.1.length≤100000):FC Tryz.prog 62 [(true,[.dat Ql c.1,.dat Qb c.2.1,.dat QA c.2.2])] [] 0 (Xv 3 .int (QD c.1 c.1.length)):=by
 refine Qj Tryz.func62 rfl rfl Tryz.ntmps62 fun u r t j v q o=> ?_
 refine w_ ?_
 refine xbx 0 ?_
 refine w3 ?_
 refine lc (dBs 1 (e:= .int) Xt) ?_
 refine w6 ?_
 refine alL 8 fun _=> ?_
 refine w4 ?_
 refine lp0 c.1.length (fun k=>⟨[(2,lf (.val (.slice none 0 0))),(3,lR 2),(8,lf (.dat Ql c.1)),(9,lI (c.1.length:Int)),(10,lI (k:Int))],[ar 2 3 .int (QD c.1 k)]⟩) ?_ fun k _=> ?_
 exact wp [(2,1)] ⟨(Qm (rfl)),trivial⟩
 have s:=Y0 (ss:=c.1) (k:=k)
 refine w4 ?_
 cases d:(decide ((k:Int)<(c.1.length:Int)))
 have f:=aa d
 refine w7 ?_
 refine Qe<|fo_ r ?_
 (congr 1;omega)
 have f:=ab d
 refine w6 ?_
 obtain ⟨i,b⟩:=gx c.1 k
 refine w2 ?_
 refine lc (xal 3 QI WO) ?_
 refine w6 ?_
 refine alI 16 fun _=> ?_
 refine w2 ?_
 cases g:(!decide (i.2=1))
 have h:(i.2=1):=Qz g
 refine w6 ?_
 refine Qd ?_
 refine l0_ ?_
 exact wp [] ⟨(Qm (by first|exact QcA b ‹_› | exact QfV b ‹_›)),trivial⟩
 have h:¬(i.2=1):=QG g
 refine w4 ?_
 refine lc (dBs 4 (e:= .int) Xt) ?_
 refine lc (dA 5 Vh) ?_
 refine w_ ?_
 refine Qd ?_
 refine w4 ?_
 refine Qd ?_
 refine l0_ ?_
 exact wp [(2,5)] ⟨(Qm (by first|exact QcA b ‹_› | exact QfV b ‹_›)),trivial⟩
theorem Qbp (c:ZM)(sig:Int)[∀c,Decidable (SgOk c)]:FC Tryz.prog 259 [(true,[.dat Ql c.1,.dat Qb c.2.1,.dat QA c.2.2]),(false,[dI sig])] [] 0 (QK (lB (decide (SgOk c∧0≤sig∧sig≤(c.1.length:Int) - 1)))):=by
 refine Qj Tryz.func259 rfl rfl Tryz.ntmps259 fun j e i f o h g=> ?_
 refine acI 1 fun _=> ?_
 refine w_ ?_
 refine xbx 0 ?_
 refine w4 ?_
 refine lc (dK (Yx c) Qb8) ?_
 refine w_ ?_
 cases b:(decide (SgOk c))
 have d:=aa b
 refine w9 ?_
 refine Qe<|fqB e ?_
 ·(simp_all;done)
 have d:=ab b
 refine w3 ?_
 refine alL 10 fun _=> ?_
 refine w2 ?_
 refine lgy rfl rfl (dK (Q7 sig 0 ((c.1.length:Int) - 1)) Z6) ?_
 refine w3 ?_
 refine Qe<|fqB e ?_
 ·(simp_all;done)
end Go.Proofs.YtjfpbcmfbnnooaaGreat
