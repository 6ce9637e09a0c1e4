/- Abstract states: an own slice whose elements are frozen slices. No program is named here. -/
import Derived.Test.YtndabgcpnmeeoaaGreatMBc
set_option linter.unusedSimpArgs false
set_option linter.unusedVariables false
set_option linter.unusedSectionVars false
namespace Go.Proofs.YtndabgcpnmeeoaaGreat
open Go.RowKit
section
variable {N:Nat→Prop}{w:World}{e:Ty}
theorem FzL.len:∀{vs:List Hdr} {xs:List e.Den},FzL N w e vs xs→vs.length=xs.length
 | [],xs,h=>by rw[show xs=[] from h]; rfl
 | v :: vs,_,⟨x,r,h1,_,h3⟩=>by rw[h1,au,au,FzL.len h3]
theorem FzL.app:∀{vs:List Hdr} {xs:List e.Den} {a:List Hdr} {ys:List e.Den},FzL N w e vs xs→FzL N w e a ys→FzL N w e (vs++a) (xs++ys)
 | [],_,_,_,h,k=>by rw[show _=[] from h]; exact k
 | v :: vs,_,_,_,⟨x,r,h1,h2,h3⟩,k=>⟨x,r++_,by rw[h1]; rfl,h2,FzL.app h3 k⟩
theorem FzL.at:∀{vs:List Hdr} {xs:List e.Den} {j:Nat} {y:e.Den},FzL N w e vs xs→xs[j]? =some y→∃z,vs[j]? =some z∧Rd N e w [hdV z] y
 | [],_,_,_,h,hy=>by rw[show _=[] from h] at hy; cases hy
 | v :: vs,_,0,y,⟨x,r,h1,h2,h3⟩,hy=>by subst h1; cases hy; exact ⟨v,rfl,h2⟩
 | v :: vs,_,j+1,y,⟨x,r,h1,h2,h3⟩,hy=>by subst h1; exact FzL.at (j:=j) h3 hy
theorem FzL.mem:∀{vs:List Hdr} {xs:List e.Den},FzL N w e vs xs→∀v∈vs,∃x,Rd N e w [hdV v] x
 | [],_,_,_,hv=>by cases hv
 | u :: vs,_,⟨x,r,_,h2,h3⟩,v,hv=>by
  rcases aC.1 hv with rfl | hv
  ·exact ⟨x,h2⟩
  ·exact FzL.mem h3 v hv
theorem FzL.of {f:Hdr→e.Den}:∀{vs:List Hdr},(∀v∈vs,Rd N e w [hdV v] (f v))→FzL N w e vs (vs.map f)
 | [],_=>rfl
 | v :: vs,h=>⟨f v,vs.map f,rfl,h v (ax ..),FzL.of fun u a=>h u (aw _ a)⟩
theorem Qvi {E:TypeId}{e:Ty}:∀{vs:List Hdr} {xs:List (List e.Den)},FzL N w (.sl E e) vs xs→vs.map (rdF E e w)=xs∧∀v∈vs,Rd N (.sl E e) w [hdV v] (rdF E e w v)
 | [],_,h=>⟨by rw[show _=[] from h]; rfl,fun _ h=>by cases h⟩
 | v :: vs,_,⟨x,r,h1,h2,h3⟩=>by
  obtain ⟨c,f⟩:=Qvi h3
  have b:rdF E e w v=x:=QoG h2.rep
  refine ⟨by rw[be,c,b,h1],fun u a=> ?_⟩
  rcases aC.1 a with rfl | a
  ·rw[b]; exact h2
  ·exact f u a
theorem QiL {E:TypeId}{e:Ty}{f:Hdr→List e.Den}{vs:List Hdr}{a:List Nat}(h:OwnL (Own (.sl E e) w) a (vs.map hdV) (vs.map f))(b:∀g∈a,N g):FzL N w (.sl E e) vs (vs.map f):=FzL.of fun v i=>by
 obtain ⟨l,j,k⟩:=Qch h v i
 exact j.rd fun g c=>b g (k g c)
end
section
variable {A:Amb}{P:Program}{s:St}
theorem Rg.toFz {gh:Gh}{a:Act}{w:World}{q:Nat}{E E':TypeId}{e:Ty}{xs:List (List e.Den)}(r:Rg A s gh a w)(I:s.tab.ent q=some (.arr E (.sl E' e) xs)):∃gh',gh'.h=gh.h∧Rg A ⟨s.tm,(q,some (.fz E (.sl E' e) xs)) :: s.tab⟩ gh' a w:=by
 have n:s.tab.al q:=⟨_,I⟩
 have O:Own (.sl E (.sl E' e)) w (gh.f q) [gh.h q] xs:=r.cx.en q _ I
 obtain ⟨v,G,X,f,B,K,L,M⟩:=QhY O
 have o:=r.cx.nd q n
 rw[B] at o
 obtain ⟨U,Y,V⟩:=bi.1 o
 have S:∀g∈v,g∈gh.f q:=fun g i=>by rw[B]; exact aS _ i
 have u:∀g∈G,g∈gh.f q:=fun g i=>by rw[B]; exact aV _ i
 have j:∀t,Tab.al ((q,some (.fz E (.sl E' e) xs)) :: s.tab) t→s.tab.al t:=fun t ⟨x,m⟩=>by
  rw[Qf] at m
  by_cases c:t=q
  ·rw[c]; exact n
  ·rw[if_neg c] at m; exact ⟨_,m⟩
 let gh':Gh:=⟨gh.h,fun t=>if t=q then v else gh.f t,fun g=>gh.N g∨g∈G⟩
 have p:gh'.f q=v:=if_pos rfl
 have z:∀t,t≠q→gh'.f t=gh.f t:=fun t c=>if_neg c
 have k:∀t,∀g∈gh'.f t,g∈gh.f t:=fun t g i=>by
  by_cases c:t=q
  ·rw[c,p] at i; rw[c]; exact S g i
  ·rwa [z t c] at i
 have H:∀g,gh.N g→gh'.N g∧w.heap[g]? =w.heap[g]? :=fun g h=>⟨.inl h,rfl⟩
 refine ⟨gh',rfl,r.step ⟨fun t x m=> ?_,fun t F l D R g i C=>r.cx.dj t F (j t l) (j F D) R g (k t g i) (k F g C),fun t l=> ?_,fun t l g i b=> ?_,fun g b=> ?_⟩ (fun t l=> .inl ⟨j t l,rfl,fun _=>rfl⟩) H (ZA w) (fun _ _ _=>rfl) (fun g b=> ?_) fun t l g i=> .inr ⟨t,j t l,k t g i⟩⟩
 ·rw[Qf] at m
  by_cases c:t=q
  ·rw[if_pos c] at m
   cases m
   rw[c]
   refine ⟨X, ?_, ?_⟩
   ·rw[p]; exact K
   ·rw[← M]; exact QiL L fun g i=> .inr i
  ·rw[if_neg c] at m
   exact (r.cx.en t x m).mono (fun W _ Q=>⟨j W Q,rfl⟩) H rfl (z t c) fun _ _=>rfl
 ·by_cases c:t=q
  ·rw[c,p]; exact U
  ·rw[z t c]; exact r.cx.nd t (j t l)
 ·rcases b with b | b
  ·exact r.cx.no t (j t l) g (k t g i) b
  ·by_cases c:t=q
   ·rw[c,p] at i; exact V g i g b rfl
   ·exact r.cx.dj t q (j t l) n c g (k t g i) (u g b)
 ·rcases b with b | b
  ·exact r.cx.nl g b
  ·exact r.cx.lt n g (u g b)
 ·rcases b with b | b
  ·exact .inl b
  ·exact .inr (.inr ⟨q,n,u g b,fun J=>r.xn g J (r.ox q n g (u g b) J)⟩)
theorem Wk.toFz {q:Nat}{E E':TypeId}{e:Ty}{xs:List (List e.Den)}(b:s.tab.ent q=some (.arr E (.sl E' e) xs)):Wk A s ⟨s.tm,(q,some (.fz E (.sl E' e) xs)) :: s.tab⟩:=fun _ _ ⟨_,r⟩=>by
 obtain ⟨a,_,c⟩:=r.toFz b
 exact ⟨a,c⟩
theorem QcL {i q:Nat}{E E':TypeId}{e:Ty}{xs:List (List e.Den)}(hi:lk s.tm i=some (lf (.ref q)))(p:s.tab.ent q=some (.fz E (.sl E' e) xs)):
 Wk A s ⟨(i,lf (.dat (.sl E (.sl E' e)) xs)) :: s.tm,(q,none) :: s.tab⟩:=fun a w r=>by
 obtain ⟨c,r⟩:=r
 obtain ⟨v,Q,l,D,R⟩:=r.tm i _ hi
 simp only[aH,and_true] at D
 subst D
 have V:v=c.h q:=R ⟨_,p⟩
 obtain ⟨zs,S,F⟩:=r.cx.en q _ p
 have B:=F.len
 refine ⟨_,(r.freeze p).know Q (pv:=lf (.dat (.sl E (.sl E' e)) xs)) ⟨_,rfl, ?_⟩⟩
 rw[V]
 show Rd (fun g=>c.N g∨g∈c.f q) (.sl E (.sl E' e)) w [c.h q] xs
 obtain ⟨wM,Y,G⟩:=UF (fun g=>c.N g∨g∈c.f q) w
 refine ⟨wM,Y, ?_⟩
 rcases S with ⟨_,n,o⟩ | ⟨g,m,H,fps,K,n,o,L,M,g6,O⟩
 ·have W:xs=[]:=bf (by rw[← B,o]; rfl)
  subst W
  exact ⟨none,0,n,aK _,aP _,fun h=>absurd h (by simp)⟩
 ·refine ⟨_,m,by rw[← B]; exact n,by rw[← B]; exact L,M,fun _=>⟨g,0,rfl,fun j y X=> ?_⟩⟩
  obtain ⟨z,C,wN,w1,w2⟩:=F.at X
  refine ⟨[hdV z],w2.kp (w1.kp fun J t=>G J (.inl t)),fun b u U=> ?_⟩
  obtain ⟨fv,I,Z,o2,o3⟩:=O.get j z C
  have o4:I=[hdV z]:=Z.2
  subst o4
  have k:=o3 b u U
  rw[bm] at k
  split at k
  ·rw[du (G g (.inr (by rw[K]; simp)))]
   simp only[World.cell?,o]
   simpa using k
  ·cases k
end
section
variable {A:Amb}{P:Program}{s:St}{x y:Operand}{d:Nat}{T ty:TypeId}{pos:String}{af:Array Edge}{g:Option (Nat×Bool)}
@[reducible] def St.mkF (s:St) (d t:Nat) (used:List Nat) (E:TypeId) (e:Ty) (xs:List e.Den):St:=⟨(d,lf (.ref t)) :: s.tm,(t,some (.fz E e xs)) :: (VS used++s.tab)⟩
theorem QoY {E:TypeId}{e:Ty}{xs ys:List e.Den}(h:xs=ys):some (Ent.fz E e xs)=some (Ent.fz E e ys):=congrArg (fun z=>some (Ent.fz E e z)) h
theorem JR (t:Nat){q j:Nat}{E:TypeId}{e:Ty}{xs ys:List e.Den}(m:Evl A s x (.ref q))(f:s.tab.ent q=some (.fz E e xs))(H:Evl A s y (.ref j))(i:s.tab.ent j=some (.fz E e ys))
 (hT:P.underlying T=some (.slice E)) (hE:WD P E 1=true) (hb:xs.length+ys.length≤1073741824) (hn:Nat.blt d A.n=true) (hfr:Fresh s t) (hk0:A.k0≤t):
 Does A P ⟨some d, .call {callee:= .builtin .append,args:= #[x,y],argTypes:= #[T,T]},ty,pos,af,g⟩ s (s.mkF d t [q] E e (xs++ys)):=fun a w K Q r G=>by
 obtain ⟨b,r⟩:=r
 obtain ⟨U,D,p⟩:=r.cx.en q _ f
 obtain ⟨o,F,u⟩:=r.cx.en j _ i
 obtain ⟨W,B,C,I,v,J,L,M,z⟩:=Qds (P:=P) T ty hT (QgP (e:= .vl) hE) D (r.cx.nd q ⟨_,f⟩) ((Own.rep F).srcOk rfl) bJ (by simp) (by simp) (by rw[p.len,u.len]; exact hb)
 have c:∀g,b.N g→b.N g∧B.heap[g]? =w.heap[g]? :=fun g k=>⟨k,z g (r.cx.nl g k) fun h=>r.cx.no q ⟨_,f⟩ g h k⟩
 have O:=r.make t hfr hk0 [q] (by simp only[aC,cA,or_false]; rintro _ rfl; exact ⟨_,f⟩) M (fun g l m=>z g l (m q (by simp))) v J (fun g l=>by
  rcases L g l with h | h | h
  ·exact .inr ⟨q,by simp,h⟩
  ·cases h
  ·exact .inl h)
 have R:=O.mod (q:=t) (Qf .. |>.trans (if_pos rfl)) (ZA B) (fun _ _ _=>rfl) (e:= .fz E e (xs++ys)) ⟨U++o,by simpa using v,(p.mono c).app (u.mono c)⟩
 have S:=R.ext (s':=⟨s.tm,(t,some (.fz E e (xs++ys))) :: (VS [q]++s.tab)⟩) (fun _=>rfl) fun V=>by
  rw[Qf,Qf]
  split
  ·rfl
  ·rename_i h; rw[Qf,if_neg h]
 refine Qeb rfl (by rw[show a.eval x=b.h q from m b a w r ⟨_,f⟩,show a.eval y=b.h j from H b a w r ⟨_,i⟩]; exact I) (G _ _ ⟨_,S.put (aF hn) (pv:=lf (.ref t)) ⟨_,rfl,fun _=>by simp⟩⟩)
theorem Qi7 {i p off q:Nat}{E' E:TypeId}{cs:List LV}{e:Ty}{xs:List e.Den}(hi:lk s.tm i=some (lf (.ref q)))(n:s.tab.ent p=some (.box E' cs))(U:cs[off]? =some (.ref q))(k:s.tab.ent q=some (.arr E e xs)):
 Wk A s ⟨(i,lf (.dat (.sl E e) xs)) :: s.tm,(p,some (.box E' (splice cs off [.dat (.sl E e) xs]))) :: (q,none) :: s.tab⟩:=fun a w r=>by
 obtain ⟨c,r⟩:=r
 obtain ⟨v0,Y,l,L,Z⟩:=r.tm i _ hi
 simp only[aH,and_true] at L
 subst L
 have B:v0=c.h q:=Z ⟨_,k⟩
 have z:p≠q:=fun h=>by rw[h,k] at n; cases n
 obtain ⟨g,b,D,M,F,O⟩:=r.cx.en p _ n
 obtain ⟨v,Q,R⟩:=O.nth U
 have V:v=c.h q:=R ⟨_,k⟩
 have G:Own (.sl E e) w (c.f q) [c.h q] xs:=r.cx.en q _ k
 have m:Tab.ent ((q,none) :: s.tab) p=some (.box E' cs):=by rw[Qf,if_neg z]; exact n
 have K:=r.freeze k
 obtain ⟨g',C,I,k2,J,W⟩:=K.cx.en p _ m
 rw[show c.h p=_ from D] at I
 cases I
 rw[F] at J
 cases J
 have S:LVs (Tab.al ((q,none) :: s.tab)) ⟨c.h,c.f,fun g=>c.N g∨g∈c.f q⟩ w [.dat (.sl E e) xs] [v]:=⟨v,[],rfl,by rw[V]; exact G.rd fun g o=> .inr o,rfl⟩
 have H:=W.splice S (off:=off)
 have j:b.toList.take off++[v]++b.toList.drop (off+[v].length)=b.toList:=by
  have t:=(ah.1 Q)
  obtain ⟨t,u⟩:=t
  conv=>rhs; rw[← bL (off+1) b.toList,bQ t,u]
  rfl
 rw[j] at H
 have X:=K.mod (e:= .box E' (splice cs off [.dat (.sl E e) xs])) m (ZA w) (fun _ _ _=>rfl) ⟨g,b,D,M,F,H⟩
 refine ⟨_,X.know Y (pv:=lf (.dat (.sl E e) xs)) ⟨_,rfl, ?_⟩⟩
 rw[B]
 exact G.rd fun g o=> .inr o
theorem Qaq {i:Nat}(E:TypeId)(e:Ty)(hi:lk s.tm i=some (lf (.val (.slice none 0 0)))):Wk A s ⟨(i,lf (.dat (.sl E e) [])) :: s.tm,s.tab⟩:=fun a w r=>by
 obtain ⟨c,r⟩:=r
 obtain ⟨v,f,l,b,h⟩:=r.tm i _ hi
 simp only[aH,and_true] at b
 subst b
 have j:v= .slice none 0 0:=h
 refine ⟨_,r.know f (pv:=lf (.dat (.sl E e) [])) ⟨_,rfl, ?_⟩⟩
 rw[j]
 exact (Evl.nil (A:=A) (s:=s) (E:=E) (e:=e)) c a w r
theorem H2 (t:Nat){E E':TypeId}{e:Ty}{ys:List e.Den}{z:Value}(U:P.underlying T=some (.slice E))(R:tsh P E=some (false,1))(Z:zer P E=some z)(Y:Ev A s y (false,[.dat (.sl E' e) ys]))(V:0 < ys.length)(W:Nat.blt d A.n=true)(H:Fresh s t)(I:A.k0≤t):
 Does A P ⟨some d, .buildSlice T 1 #[(0,y)],ty,pos,af,g⟩ s (s.mkF d t [] E (.sl E' e) [ys]):=fun a w K Q r S=>by
 obtain ⟨B,r⟩:=r
 obtain ⟨l,m,X⟩:=Y B a w r
 simp only[aH,and_true] at m
 subst m
 have u:Rd B.N (.sl E' e) w [a.eval y] ys:=X
 obtain ⟨A',c,M,h2,h3,O⟩:=u.rep
 obtain ⟨b,o,rfl,_⟩:=O V
 have C:a.eval y=hdV (some (b,o,ys.length,c)):=by simpa [hdV] using M
 have F:(a.eval y).cells.size=1:=by rw[C]; rfl
 obtain ⟨f,k1,k2⟩:=QdL 1 [a.eval y] 0 ((Array.range (1*1)).map ((z.cells)[· % (z.cells).size]!)) (by simpa using F) (by simp)
 have v:(execOp a.eval ⟨some d, .buildSlice T 1 #[(0,y)],ty,pos,af,g⟩).run P w= .ok (.value (.slice (some ⟨w.heap.size,0,none⟩) 1 1)) (w.alloc (.cells f E)):=by
  simp only[execOp,Instr.buildSlice,az,run_underlying U,aI,YS R]
  rw[if_neg (by decide),if_neg (by decide)]
  simp only[bd,aI,az,X7 Z]
  rw[show (Array.map (fun p:Nat×Operand=>(p.1,a.eval p.2)) #[(0,y)]).toList=([a.eval y].zipIdx 0).map fun p=>(p.2,p.1) by simp,k1]
  simp[newRow,az]
 unfold Oper.wp
 rw[v,Oper.upon_value]
 have j:∀g,g < w.heap.size→(w.alloc (.cells f E)).heap[g]? =w.heap[g]? :=fun g k=>Below.heap_alloc w _ g k
 have i:f.toList=[hdV (some (b,o,ys.length,c))]:=by
  rw[k2,C]; rfl
 have G:f.size=1:=by rw[show f.size=f.toList.length by simp,i]; rfl
 have D:∀g,B.N g→B.N g∧(w.alloc (.cells f E)).heap[g]? =w.heap[g]? :=fun g J=>⟨J,j g (r.cx.nl g J)⟩
 have L:Own (.sl E .vl) (w.alloc (.cells f E)) [w.heap.size] [.slice (some ⟨w.heap.size,0,none⟩) 1 1] [some (b,o,ys.length,c)]:= .inr ⟨w.heap.size,1,f,[],rfl,rfl,heap_alloc_new w _,by simp,by unfold maxLen; omega,G,by
  rw[aR (by rw[i]; exact aK _),i]
  exact ⟨[],[],[hdV (some (b,o,ys.length,c))],[],rfl,rfl,⟨rfl,rfl⟩,⟨rfl,rfl⟩⟩⟩
 have r2:=r.make (w':=w.alloc (.cells f E)) t H I [] (by simp) ⟨rfl,rfl,rfl,by simp⟩ (fun g k _=>j g k) (hv:= .slice (some ⟨w.heap.size,0,none⟩) 1 1) (fp:=[w.heap.size]) (E:=E) (e:= .vl) (xs:=[some (b,o,ys.length,c)])
  L (by simp) (fun g k=> .inl (by simp at k; omega))
 have r3:=r2.mod (q:=t) (Qf .. |>.trans (if_pos rfl)) (ZA _) (fun _ _ _=>rfl) (e:= .fz E (.sl E' e) [ys]) ⟨[some (b,o,ys.length,c)],by simpa using L,ys,[],rfl,C▸u.mono D,rfl⟩
 have r4:=r3.ext (s':=⟨s.tm,(t,some (.fz E (.sl E' e) [ys])) :: (VS []++s.tab)⟩) (fun _=>rfl) fun q'=>by
  rw[Qf,Qf]
  split
  ·rfl
  ·rename_i h; rw[Qf,if_neg h]
 exact S _ _ ⟨_,r4.put (aF W) (pv:=lf (.ref t)) ⟨_,rfl,fun _=>by simp⟩⟩
end
end Go.Proofs.YtndabgcpnmeeoaaGreat
namespace Go.Proofs.YtndabgcpnmeeoaaGreat
open Go.RowKit
set_option maxRecDepth 100000
set_option maxHeartbeats 4000000
def swL (as_:List DAr)(l:Int×Bool):List Int:=(as_.filter fun a=>decide (a.2.1=l.1∧a.2.2.1=l.2)).map fun a=>a.2.2.2
def QR (c:DSg)(sig:Int):Bool:=decide (0≤sig)&&decide (((c.1[sig.toNat]?).getD (ByteArray.empty,0)).2=1)
def Qy (l:List Qz)(k:Nat):List Int:=((List.range k).filter fun i=> !decide (((l[i]?).getD (ByteArray.empty,0)).2=1)).map fun i=>((i:Nat):Int)
def QyW (c:DSg):ByteArray:=if ZO (fun x:Qz=>decide (x.1=(⟨#[122,48]⟩:ByteArray))) c.1 < 0 then ⟨#[122,48]⟩ else if ZO (fun x:Qz=>decide (x.1=(⟨#[122,49]⟩:ByteArray))) c.1 < 0 then ⟨#[122,49]⟩ else ⟨#[122,50]⟩
section
variable {c:DSg}{l:List Int}{as_:List DAr}{a:DAr}{p:Int×Bool}{k:Nat}{n m y sig:Int}{x:Qz}{ss:List Qz}
theorem V0 {p r:Int×Bool}(h:Ty.beq Zk p r=true):p.1=r.1∧p.2=r.2:=by rw[(Ty.beq_iff _ _ _).1 h]; exact ⟨rfl,rfl⟩
theorem Qa1 {p r:Int×Bool}(h:Ty.beq Zk p r=false):¬(p.1=r.1∧p.2=r.2):=fun g=>by
 have:p=r:=Prod.ext g.1 g.2
 rw[(Ty.beq_iff _ _ _).2 this] at h; cases h
theorem QaS (b:ss[k]? =some x)(h:¬x.2=1):Qy ss k++[(k:Int)]=Qy ss (k+1):=by
 unfold Qy
 rw[bY,bz,bt]; simp[b,h]
theorem QcQ (b:ss[k]? =some x)(h:x.2=1):Qy ss k=Qy ss (k+1):=by
 unfold Qy
 rw[bY,bz,bt]; simp[b,h]
theorem Wo:(Qy ss k).length≤k:=by unfold Qy; rw[aJ]; exact bu (bM ..) (by simp)
theorem QaR:y∈Qy ss k↔∃i:Nat,y=(i:Int)∧i < k∧¬((ss[i]?).getD (ByteArray.empty,0)).2=1:=by
 unfold Qy
 simp only[ba,bl,bD,bS,cZ]
 constructor
 ·rintro ⟨i,⟨b,d⟩,rfl⟩; exact ⟨i,rfl,b,d⟩
 ·rintro ⟨i,rfl,b,d⟩; exact ⟨i,⟨b,d⟩,rfl⟩
theorem Qmp (h:¬0≤sig):false=QR c sig:=by unfold QR; rw[aB h]; rfl
theorem J7 (h:0≤sig)(b:c.1[sig.toNat]? =some x):decide (x.2=1)=QR c sig:=by unfold QR; rw[aE h,b]; rfl
theorem Qus (b:∀j:Nat,(j:Int) < m→∀y,l[j]? =some y→y < n)(h:l[m.toNat]? =some n):l=Z8 ltI n l:=
 (QfM (k:=m.toNat) (fun j e y d=>by have:=b j (by omega) y d; simp[ltI,this]) h (by simp[ltI])).symm
theorem QuT (d:∀j:Nat,(j:Int) < m→∀y,l[j]? =some y→y < n)(h0:0≤m)(e:m≤(l.length:Int))(h:∀y,l[m.toNat]? =some y→¬y < n∧y≠n):l.take m.toNat++n :: l.drop m.toNat=Z8 ltI n l:=
 (Qlt (k:=m.toNat) (fun j f y b=>by have:=d j (by omega) y b; simp[ltI,this]) (by omega) fun y b=>by have:=h y b; simp[ltI,this]).symm
theorem Ql4 (d:∀j:Nat,(j:Int) < m→∀y,l[j]? =some y→y < n)(h0:0≤m)(b:m≤(l.length:Int))(h:∀y,l[m.toNat]? =some y→¬y < n∧y≠n):
 (([]++(l.take (0+m.toNat)).drop 0)++[n])++(l.take (m.toNat+(l.length - m.toNat))).drop m.toNat=Z8 ltI n l:=by
 rw[← QuT d h0 b h,show m.toNat+(l.length - m.toNat)=l.length by omega,dU]
 simp
abbrev Qye:List ByteArray:=[(⟨#[122,48]⟩:ByteArray),(⟨#[122,49]⟩:ByteArray)]
end
theorem Qau (l:List Int)(j:l.length≤1000000):FC Tryz.prog 268 [(false,[.ref 0])] [ar 0 3 .int l] 0 (YV 3 .int (ofG ltI l)):=by
 refine Qp Tryz.func268 rfl rfl Tryz.ntmps268 fun h f g b i e d=> ?_
 refine w5 ?_
 refine lc (dP 1 [] (QlI l (by omega)) Qdx) ?_
 refine w3 ?_
 refine lc (dP 2 [] (QkO (XW l) (by rw[K3]; omega)) QdF) ?_
 refine w2 ?_
 refine Qd<|fo_ f ?_
 exact QrS _
theorem Ws (l:List Int)(n:Int):FC Tryz.prog 228 [(false,[.dat Qi l]),(false,[dI n])] [] 0 (QX (lB (decide (n∈l)))):=by
 refine Qp Tryz.func228 rfl rfl Tryz.ntmps228 fun w o u q z s r=> ?_
 refine acI 1 fun _=> ?_
 refine w6 ?_
 refine alL 7 fun _=> ?_
 refine w4 ?_
 refine lpK l.length (fun k=>∀j,j < k→∀y,l[j]? =some y→¬y=n) (fun k=>⟨[(1,lI n),(7,lf (.dat Qi l)),(8,lI (l.length:Int)),(9,lI (k:Int))],[]⟩) ((fun j i=>absurd i (aW j))) ?_ fun k _ g=> ?_
 exact wo []
 refine w4 ?_
 cases b:(decide ((k:Int) < (l.length:Int)))
 have d:=aa b
 refine w6 ?_
 refine Qd<|fqB o ?_
 first | exact (aB fun t=>by obtain ⟨j,i⟩:=aL.1 t; exact g j (by have:=(ah.1 i).1; omega) n i rfl).symm
 have d:=ab b
 refine w5 ?_
 obtain ⟨v,h⟩:=gx l k
 refine w2 ?_
 refine alI 12 fun _=> ?_
 refine w7 ?_
 cases e:(decide (v=n))
 have f:=aa e
 refine w6 ?_
 refine Qb ?_
 refine lK_ ((Xq g h ‹_›)) ?_
 exact wo []
 have f:=ab e
 refine w4 ?_
 refine Qd<|fqB o ?_
 exact (aE (by have:=ae h; simp_all)).symm
theorem JS (l:List Int)(n:Int)(I:l.length≤1000000000):FC Tryz.prog 389 [(false,[.ref 0]),(false,[dI n])] [ar 0 3 .int l] 0 (YV 3 .int (Z8 ltI n l)):=by
 refine Qp Tryz.func389 rfl rfl Tryz.ntmps389 fun G q F w H B A=> ?_
 refine acI 1 fun _=> ?_
 refine w8 ?_
 refine QD (fun u v=>∃(m:Int),u=((l.length:Int) - m).toNat∧(0≤m∧m≤(l.length:Int))∧(∀j:Nat,(j:Int) < m→∀y,l[j]? =some y→y < n)∧v=⟨[(0,lR 0),(1,lI n),(4,lf (.val (.slice none 0 0))),(5,lI m)],[ar 0 3 .int l]⟩) ⟨0,rfl,(by omega),(fun j C=>by omega),rfl⟩ ?_ ?_
 exact wo []
 rintro u v ⟨m,D,J,o,rfl⟩
 refine w7 ?_
 cases d:(decide (m < (l.length:Int)))
 have f:=aa d
 refine w16 ?_
 refine w2 ?_
 have r:(decide (m < (l.length:Int)))=false:=d
 try rw[r]
 refine w11 ?_
 refine lc (dBs 1 (e:= .int) Yt) ?_
 refine w2 ?_
 refine lc (Yl (e:= .int) (a:=0) (b:=(m).toNat) (l:=none) (h:=(some m)) (Qa rfl) rfl (by exact trivial) (by exact (Qa rfl)) Zf ZY rfl (by first | (simp only[ao,ak]; omega) | omega | (simp only[ao,ak,ai,ap,aG]; omega)) (by first | (simp only[ao,ak]; omega) | omega | (simp only[ao,ak,ai,ap,aG]; omega)) (by first | (simp only[ao,ak]; omega) | omega | (simp only[ao,ak,ai,ap,aG]; omega)) (by first | rfl | simp) (by first | rfl | simp))<|lc (Z4 2 (Qa rfl) rfl (Ve (e:= .int) (Qa rfl) rfl (by omega)) rfl Zf XC (by first | omega | (simp only[ai,aJ,ap,au,aO]; omega) | (simp only[ai,bG,ap,au,aO]; omega)) rfl (Fresh.of rfl) (nlr rfl)) ?_
 refine w5 ?_
 refine lc (dBs 3 (e:= .int) Yt) ?_
 refine lc (dA 4 XC) ?_
 refine w6 ?_
 refine lc (Yl (e:= .int) (a:=(m).toNat) (b:=l.length - (m).toNat) (l:=(some m)) (h:=none) (Qa rfl) rfl (by exact (Qa rfl)) (by exact trivial) Zf ZY rfl (by first | (simp only[ao,ak]; omega) | omega | (simp only[ao,ak,ai,ap,aG]; omega)) (by first | (simp only[ao,ak]; omega) | omega | (simp only[ao,ak,ai,ap,aG]; omega)) (by first | (simp only[ao,ak]; omega) | omega | (simp only[ao,ak,ai,ap,aG]; omega)) (by first | rfl | simp) (by first | rfl | simp))<|lc (Z4 5 (Qa rfl) rfl (Ve (e:= .int) (Qa rfl) rfl (by omega)) rfl Zf XC (by first | omega | (simp only[ai,aJ,ap,au,aO]; omega) | (simp only[ai,bG,ap,au,aO]; omega)) rfl (Fresh.of rfl) (nlr rfl)) ?_
 refine w2 ?_
 refine Qd<|fo_ q ?_
 exact Ql4 o (by omega) (by omega) (fun z t=>by simp_all)
 have f:=ab d
 refine w3 ?_
 obtain ⟨y,E⟩:=gx l ((m).toNat)
 refine w5 ?_
 cases g:(decide (y < n))
 have i:=aa g
 refine w10 ?_
 have s:(decide (m < (l.length:Int)))=true:=d
 try rw[s]
 refine w8 ?_
 refine cd_ (fun _ _=> ?_) fun _ _=> ?_
 refine w2 ?_
 refine lc (dBs 6 (e:= .int) Yt) ?_
 refine w2 ?_
 refine lc (Yl (e:= .int) (a:=0) (b:=(m).toNat) (l:=none) (h:=(some m)) (Qa rfl) rfl (by exact trivial) (by exact (Qa rfl)) Zf ZY rfl (by first | (simp only[ao,ak]; omega) | omega | (simp only[ao,ak,ai,ap,aG]; omega)) (by first | (simp only[ao,ak]; omega) | omega | (simp only[ao,ak,ai,ap,aG]; omega)) (by first | (simp only[ao,ak]; omega) | omega | (simp only[ao,ak,ai,ap,aG]; omega)) (by first | rfl | simp) (by first | rfl | simp))<|lc (Z4 7 (Qa rfl) rfl (Ve (e:= .int) (Qa rfl) rfl (by omega)) rfl Zf XC (by first | omega | (simp only[ai,aJ,ap,au,aO]; omega) | (simp only[ai,bG,ap,au,aO]; omega)) rfl (Fresh.of rfl) (nlr rfl)) ?_
 refine w5 ?_
 refine lc (dBs 8 (e:= .int) Yt) ?_
 refine lc (dA 9 XC) ?_
 refine w6 ?_
 refine lc (Yl (e:= .int) (a:=(m).toNat) (b:=l.length - (m).toNat) (l:=(some m)) (h:=none) (Qa rfl) rfl (by exact (Qa rfl)) (by exact trivial) Zf ZY rfl (by first | (simp only[ao,ak]; omega) | omega | (simp only[ao,ak,ai,ap,aG]; omega)) (by first | (simp only[ao,ak]; omega) | omega | (simp only[ao,ak,ai,ap,aG]; omega)) (by first | (simp only[ao,ak]; omega) | omega | (simp only[ao,ak,ai,ap,aG]; omega)) (by first | rfl | simp) (by first | rfl | simp))<|lc (Z4 10 (Qa rfl) rfl (Ve (e:= .int) (Qa rfl) rfl (by omega)) rfl Zf XC (by first | omega | (simp only[ai,aJ,ap,au,aO]; omega) | (simp only[ai,bG,ap,au,aO]; omega)) rfl (Fresh.of rfl) (nlr rfl)) ?_
 refine w2 ?_
 refine Qd<|fo_ q ?_
 exact Ql4 o (by omega) (by omega) (fun z t=>by simp_all)
 refine w4 ?_
 refine Qd<|fo_ q ?_
 exact Qus o (by simp_all)
 have i:=ab g
 refine w7 ?_
 refine Qb<|Zb ⟨(m+1),rfl,(by omega),(fun j C z t=>by by_cases e:j=m.toNat <;> first | (subst e; simp_all; done) | exact o j (by omega) z t),rfl⟩ (by omega) ?_
 exact wo []
theorem U4 (c:ZX)(sig:Int)(r:sig < (c.1.length:Int)):FC Tryz.prog 411 [(true,[.dat Ql c.1, .dat Qj c.2.1, .dat Qv c.2.2]),(false,[dI sig])] [] 0 (QX (lB (QR c sig))):=by
 refine Qp Tryz.func411 rfl rfl Tryz.ntmps411 fun o f j g q i h=> ?_
 refine acI 1 fun _=> ?_
 refine w_ ?_
 refine xbx 0 ?_
 refine w6 ?_
 cases b:(decide (0≤sig))
 have d:=aa b
 refine w10 ?_
 refine Qd<|fqB f ?_
 first | exact Qmp ‹_›
 have d:=ab b
 refine w3 ?_
 obtain ⟨s,e⟩:=gx c.1 ((sig).toNat)
 refine w7 ?_
 refine Qd<|fqB f ?_
 exact J7 ‹_› e
theorem Kc (c:ZX)(w:c.1.length≤100000):FC Tryz.prog 178 [(true,[.dat Ql c.1, .dat Qj c.2.1, .dat Qv c.2.2])] [] 0 (YV 3 .int (Qy c.1 c.1.length)):=by
 refine Qp Tryz.func178 rfl rfl Tryz.ntmps178 fun u r t j v q o=> ?_
 refine w_ ?_
 refine xbx 0 ?_
 refine w3 ?_
 refine lc (dBs 1 (e:= .int) Yt) ?_
 refine w6 ?_
 refine alL 8 fun _=> ?_
 refine w4 ?_
 refine lp0 c.1.length (fun k=>⟨[(2,lf (.val (.slice none 0 0))),(3,lR 2),(8,lf (.dat Ql c.1)),(9,lI (c.1.length:Int)),(10,lI (k:Int))],[ar 2 3 .int (Qy c.1 k)]⟩) ?_ fun k _=> ?_
 exact wp [(2,1)] ⟨(Qk (rfl)),trivial⟩
 have s:=Wo (ss:=c.1) (k:=k)
 refine w4 ?_
 cases d:(decide ((k:Int) < (c.1.length:Int)))
 have f:=aa d
 refine w7 ?_
 refine Qd<|fo_ r ?_
 (congr 1; omega)
 have f:=ab d
 refine w6 ?_
 obtain ⟨i,b⟩:=gx c.1 k
 refine w2 ?_
 refine lc (xal 3 Zw HI) ?_
 refine w6 ?_
 refine alI 16 fun _=> ?_
 refine w2 ?_
 cases g:(!decide (i.2=1))
 have h:(i.2=1):=Qu g
 refine w6 ?_
 refine Qb ?_
 refine l0_ ?_
 exact wp [] ⟨(Qk (by first | exact QaS b ‹_› | exact QcQ b ‹_›)),trivial⟩
 have h:¬(i.2=1):=QE g
 refine w4 ?_
 refine lc (dBs 4 (e:= .int) Yt) ?_
 refine lc (dA 5 XC) ?_
 refine w_ ?_
 refine Qb ?_
 refine w4 ?_
 refine Qb ?_
 refine l0_ ?_
 exact wp [(2,5)] ⟨(Qk (by first | exact QaS b ‹_› | exact QcQ b ‹_›)),trivial⟩
end Go.Proofs.YtndabgcpnmeeoaaGreat
namespace Go.Proofs.YtndabgcpnmeeoaaGreat
open Go.RowKit
set_option maxRecDepth 100000
set_option maxHeartbeats 4000000
abbrev Ua (a:DAr)(l:Int×Bool):Prop:=a.2.1=l.1∧a.2.2.1=l.2
def ixE (as_:List DAr):List (Int×Int):=as_.zipIdx.map fun x=>(x.1.1,(x.2:Int))
inductive ClS (as_:List DAr) (p r:Int×Bool):Int→Prop
  | base {a:DAr}:a∈as_→Ua a p→ClS as_ p r a.2.2.2
  | step {a:DAr}:a∈as_→ClS as_ p r a.1→¬Ua a r→ClS as_ p r a.2.2.2
def Qg2 (p:Int×Bool)(l:List Int)(a:DAr):List Int:=if Ua a p then Z8 ltI a.2.2.2 l else l
def WH (r:Int×Bool)(l:List Int)(a:DAr):List Int:=if a.1∈l∧¬Ua a r then Z8 ltI a.2.2.2 l else l
def Q3 {α:Type}(f:α→α):Nat→α→α
 | 0,x=>x
 | n+1,x=>f (Q3 f n x)
def He (c:DSg)(p r:Int×Bool):List Int:=Q3 (fun l=>c.2.2.foldl (WH r) l) c.2.1.length (c.2.2.foldl (Qg2 p) [])
theorem Qpb {α:Type}{f:α→α}{I:α→Prop}{m:α→Nat}{n:Nat}(g:∀x,I x→I (f x))(u:∀x,I x→m x≤n)(s:∀x,I x→f x=x∨m x < m (f x)){x:α}(v:I x):f (Q3 f n x)=Q3 f n x:=by
 have d:∀k,I (Q3 f k x):=fun k=>by
  induction k with
  | zero=>exact v
  | succ k e=>exact g _ e
 have t:∀k,f (Q3 f k x)=Q3 f k x∨k≤m (Q3 f k x):=fun k=>by
  induction k with
  | zero=>exact .inr (aP _)
  | succ k e=>
   rcases e with h | h
   ·exact .inl (by show f (f (Q3 f k x))=f (Q3 f k x); rw[h,h])
   ·rcases s _ (d k) with b | b
    ·exact .inl (by show f (f (Q3 f k x))=f (Q3 f k x); rw[b,b])
    ·exact .inr (by show k+1≤m (f (Q3 f k x)); omega)
 rcases t n with h | h
 ·exact h
 ·rcases s _ (d n) with b | b
  ·exact b
  ·have:=u _ (g _ (d n)); omega
section
variable {c:DSg}{as_:List DAr}{a:DAr}{p r:Int×Bool}{k i j n:Nat}{l out ts ys L:List Int}{seen:List Bool}{x y o q at_:Int}
theorem Qac:(ixE as_).length=as_.length:=by simp[ixE]
theorem Qkl (b:as_[k]? =some a):(ixE as_)[k]? =some (a.1,(k:Int)):=by simp[ixE,List.getElem?_zipIdx,b]
theorem Qlm {e:Int×Int}:e∈ixE as_↔∃(j:Nat) (a:DAr),as_[j]? =some a∧e=(a.1,(j:Int)):=by
 rw[aL]
 constructor
 ·rintro ⟨j,d⟩
  have f:=(ah.1 d).1
  rw[Qac] at f
  have b:as_[j]? =some as_[j]:=aj f
  rw[Qkl b] at d
  exact ⟨j,_,b,by simpa using d.symm⟩
 ·rintro ⟨j,a,b,rfl⟩; exact ⟨j,Qkl b⟩
theorem Qe4 (v:∀a∈as_,0≤a.1)(f:(Zp n (ixE as_))[i]? =some ys):x∈ys↔∃(j:Nat) (a:DAr),as_[j]? =some a∧a.1=(i:Int)∧x=(j:Int):=by
 have u:i < n:=by have:=(ah.1 f).1; rw[Xp] at this; exact this
 have h:=QfF (es:=ixE as_) (l:=List.replicate n []) (i:=i) (t:=x) (fun e s=>by obtain ⟨j,a,b,rfl⟩:=Qlm.1 s; exact v a (ae b))
 have d:((ixE as_).foldl Qbl (List.replicate n []))[i]? =some ys:=f
 rw[d] at h
 simp only[ak,cq,u,if_true,cA,aG,true_and,false_or] at h
 rw[h,Qlm]
 constructor
 ·rintro ⟨j,a,b,e⟩; exact ⟨j,a,b,by have:=congrArg Prod.fst e; exact this.symm,congrArg Prod.snd e⟩
 ·rintro ⟨j,a,b,g,m⟩; exact ⟨j,a,b,by rw[g,m]⟩
theorem Qf4:∀{l:List Int} {lo hi:Int},l.Pairwise (fun x y=>ltI x y=true)→(∀x∈l,lo≤x∧x < hi)→lo≤hi→(l.length:Int)≤hi - lo
 | [],_,_,_,_,h=>by simp; omega
 | x :: l,lo,hi,h1,h2,h3=>by
  obtain ⟨d,e⟩:=bk.1 h1
  have g:=h2 x (ax ..)
  have:=Qf4 (l:=l) (lo:=x+1) (hi:=hi) e (fun y b=>by have f:=d y b; have m:=h2 y (aw _ b); simp only[ltI,aT] at f; omega) (by omega)
  simp only[au]; omega
theorem Qn7 (h:l.Nodup)(e:∀x∈l,0≤x∧x < (n:Int)):l.length≤n:=by
 have b:(XW l).Nodup:=(Vd l).nodup_iff.2 h
 have d:(XW l).Pairwise fun x y=>ltI x y=true:=by
  have:=(UK l).and b
  exact this.imp fun ⟨g,m⟩=>by simp only[ltI,aT]; omega
 have:=Qf4 d (lo:=0) (hi:=n) (fun x f=>e x (Jr.1 f)) (by omega)
 rw[K3] at this
 omega
abbrev QwM (l:List Int):Prop:=l.Pairwise fun x y=>ltI x y=true
theorem Qd6:∀(x:Int) (l:List Int),Z8 ltI x l=l∨(Z8 ltI x l).length=l.length+1
 | x,[]=> .inr rfl
 | x,y :: l=>by
  unfold Z8
  split
  ·rcases Qd6 x l with h | h
   ·exact .inl (by rw[h])
   ·exact .inr (by simp[h])
  ·split
   ·exact .inl rfl
   ·exact .inr rfl
theorem QhJ:WH r l a=l∨(WH r l a).length=l.length+1:=by
 unfold WH
 split
 ·exact Qd6 _ _
 ·exact .inl rfl
theorem QaF:∀(as_:List DAr) (l:List Int),as_.foldl (WH r) l=l∨l.length < (as_.foldl (WH r) l).length
 | [],l=> .inl rfl
 | a :: as_,l=>by
  rw[aN]
  rcases QaF as_ (WH r l a) with h | h <;> rcases QhJ (r:=r) (l:=l) (a:=a) with b | b
  ·exact .inl (by rw[h,b])
  ·exact .inr (by rw[h]; omega)
  ·rw[b] at h ⊢; exact .inr h
  ·exact .inr (by omega)
structure BlS (c:DSg) (p r:Int×Bool) (l:List Int):Prop where
  str:QwM l
  cl:∀x∈l,ClS c.2.2 p r x
theorem BlS.put (h:BlS c p r l)(d:ClS c.2.2 p r x):BlS c p r (Z8 ltI x l):=⟨Ur ZS h.str,fun y b=>by
 rcases Yr.1 b with rfl | b
 ·exact d
 ·exact h.cl y b⟩
theorem Qbt:∀{as_:List DAr} {l:List Int},(∀a∈as_,a∈c.2.2)→BlS c p r l→BlS c p r (as_.foldl (Qg2 p) l)∧(∀x∈l,x∈as_.foldl (Qg2 p) l)∧∀a∈as_,Ua a p→a.2.2.2∈as_.foldl (Qg2 p) l
 | [],l,_,h=>⟨h,fun x d=>d,fun a s=>by cases s⟩
 | a :: as_,l,hs,h=>by
  have g:BlS c p r (Qg2 p l a)∧(∀x∈l,x∈Qg2 p l a)∧(Ua a p→a.2.2.2∈Qg2 p l a):=by
   unfold Qg2
   split
   ·rename_i m
    exact ⟨h.put (.base (hs a (ax ..)) m),fun x d=>Yr.2 (.inr d),fun _=>Yr.2 (.inl rfl)⟩
   ·rename_i m
    exact ⟨h,fun x d=>d,fun f=>absurd f m⟩
  obtain ⟨t,i2,i3⟩:=Qbt (l:=Qg2 p l a) (fun b e=>hs b (aw _ e)) g.1
  refine ⟨t,fun x d=>i2 x (g.2.1 x d),fun b e f=> ?_⟩
  rcases aC.1 e with rfl | e
  ·exact i2 _ (g.2.2 f)
  ·exact i3 b e f
theorem Wm:∀{as_:List DAr} {l:List Int},(∀a∈as_,a∈c.2.2)→BlS c p r l→BlS c p r (as_.foldl (WH r) l)∧(∀x∈l,x∈as_.foldl (WH r) l)∧∀a∈as_,a.1∈l→¬Ua a r→a.2.2.2∈as_.foldl (WH r) l
 | [],l,_,h=>⟨h,fun x d=>d,fun a u=>by cases u⟩
 | a :: as_,l,hs,h=>by
  have e:BlS c p r (WH r l a)∧(∀x∈l,x∈WH r l a)∧(a.1∈l→¬Ua a r→a.2.2.2∈WH r l a):=by
   unfold WH
   split
   ·rename_i g
    exact ⟨h.put (.step (hs a (ax ..)) (h.cl _ g.1) g.2),fun x d=>Yr.2 (.inr d),fun _ _=>Yr.2 (.inl rfl)⟩
   ·rename_i g
    exact ⟨h,fun x d=>d,fun e t=>absurd ⟨e,t⟩ g⟩
  obtain ⟨v,i2,i3⟩:=Wm (l:=WH r l a) (fun b f=>hs b (aw _ f)) e.1
  refine ⟨v,fun x d=>i2 x (e.2.1 x d),fun b f s m=> ?_⟩
  rcases aC.1 f with rfl | f
  ·exact i2 _ (e.2.2 s m)
  ·exact i3 b f (e.2.1 _ s) m
theorem Qss (d:∀a∈as_,0≤a.2.2.2∧a.2.2.2 < (n:Int))(h:ClS as_ p r x):0≤x∧x < (n:Int):=by
 cases h with
 | base b _=>exact d _ b
 | step b _ _=>exact d _ b
theorem Qes {f:List Int→List Int}(d:∀l,BlS c p r l→BlS c p r (f l)∧∀x∈l,x∈f l)(h:BlS c p r l):∀k,BlS c p r (Q3 f k l)∧∀x∈l,x∈Q3 f k l
 | 0=>⟨h,fun x b=>b⟩
 | k+1=>by
  obtain ⟨e,g⟩:=Qes d h k
  obtain ⟨m,s⟩:=d _ e
  exact ⟨m,fun x b=>s x (g x b)⟩
theorem QdT (c:DSg)(p r:Int×Bool):BlS c p r (He c p r):=
 (Qes (fun l b=>⟨(Wm (fun _ h=>h) b).1,(Wm (fun _ h=>h) b).2.1⟩) (Qbt (fun _ h=>h) ⟨ce,fun x d=>by cases d⟩).1 _).1
theorem Qjr (B:∀a∈c.2.2,InR c.2.1.length a):x∈He c p r↔ClS c.2.2 p r x:=by
 have z:BlS c p r ([]:List Int):=⟨ce,fun x u=>by cases u⟩
 obtain ⟨v,D,w⟩:=Qbt (as_:=c.2.2) (fun _ h=>h) z
 have t:∀a∈c.2.2,0≤a.2.2.2∧a.2.2.2 < (c.2.1.length:Int):=fun a A=>(B a A).2
 have s:=Qpb (f:=fun l=>c.2.2.foldl (WH r) l) (I:=BlS c p r) (m:=List.length) (n:=c.2.1.length) (fun l d=>(Wm (fun _ h=>h) d).1)
  (fun l d=>by have:=Qf4 d.str (lo:=0) (hi:=c.2.1.length) (fun x u=>Qss t (d.cl x u)) (by omega); omega) (fun l _=>QaF _ _) v
 have b:=(Qes (f:=fun l=>c.2.2.foldl (WH r) l) (fun l d=>⟨(Wm (fun _ h=>h) d).1,(Wm (fun _ h=>h) d).2.1⟩) v c.2.1.length)
 refine ⟨(QdT c p r).cl x,fun h=> ?_⟩
 induction h with
 | base e g=>exact b.2 _ (w _ e g)
 | step e _ g C=>
  have:=(Wm (r:=r) (fun _ h=>h) b.1).2.2 _ e C g
  rw[s] at this
  exact this
def mkS (n:Nat)(l:List Int):List Bool:=l.foldl (fun s x=>s.set x.toNat true) (List.replicate n false)
theorem QsB:(mkS n l).length=n:=by
 unfold mkS
 have:∀(l:List Int) (s:List Bool),(l.foldl (fun s x=>s.set x.toNat true) s).length=s.length:=fun l=>by
  induction l with
  | nil=>intro s; rfl
  | cons x l b=>intro s; rw[aN,b,ay]
 rw[this]; simp
theorem Qt1 (b:∀x∈l,0≤x∧x < (n:Int))(h0:0≤x)(h:x < (n:Int)):(mkS n l)[x.toNat]? =some true↔x∈l:=by
 unfold mkS
 have:∀(l:List Int) (s:List Bool),s.length=n→(∀x∈l,0≤x∧x < (n:Int))→((l.foldl (fun s x=>s.set x.toNat true) s)[x.toNat]? =some true↔s[x.toNat]? =some true∨x∈l):=fun l=>by
  induction l with
  | nil=>intro s _ _; simp
  | cons y l g=>
   intro s d b
   have m:=b y (ax ..)
   rw[aN,g _ (by rw[ay]; exact d) fun z f=>b z (aw _ f),aC]
   by_cases e:x=y
   ·subst e
    rw[aY (by omega)]; simp
   ·rw[bh (by omega)]; simp[e]
 rw[this l _ (by simp) b]
 simp[cq]
structure BlI (c:DSg) (p r:Int×Bool) (at_:Int) (out:List Int) (seen:List Bool):Prop where
  rng:0≤at_∧at_≤(out.length:Int)
  nd:out.Nodup
  q:∀x∈out,(0≤x∧x < (c.2.1.length:Int))∧ClS c.2.2 p r x
  sn:seen.length=c.2.1.length
  se:∀x,0≤x→x < (c.2.1.length:Int)→(seen[x.toNat]? =some true↔x∈out)
  base:∀a∈c.2.2,Ua a p→a.2.2.2∈out
  cl:∀(j:Nat) (o:Int),(j:Int) < at_→out[j]? =some o→∀a∈c.2.2,a.1=o→¬Ua a r→a.2.2.2∈out
theorem Qgb:x∈swL as_ p↔∃a∈as_,Ua a p∧a.2.2.2=x:=by
 unfold swL
 simp only[ba,bl,aT]
 constructor
 ·rintro ⟨a,⟨b,d⟩,e⟩; exact ⟨a,b,d,e⟩
 ·rintro ⟨a,b,d,e⟩; exact ⟨a,⟨b,d⟩,e⟩
theorem QqX (d:∀a∈c.2.2,InR c.2.1.length a)(h:out=ofG ltI (swL c.2.2 p))(e:x∈out):0≤x∧x < (c.2.1.length:Int):=by
 subst h
 obtain ⟨a,b,_,rfl⟩:=Qgb.1 ((X1 ZS _).1 e)
 exact (d a b).2
theorem QmR (h:QwM l):l.Nodup:=h.imp fun h=>by simp only[ltI,aT] at h; omega
theorem BlI.start (e:∀a∈c.2.2,InR c.2.1.length a)(h:out=ofG ltI (swL c.2.2 p))(f:seen=mkS c.2.1.length out):BlI c p r 0 out seen where
 rng:=by omega
 nd:=by rw[h]; exact QmR (UH ZS _)
 q x hx:=⟨QqX e h hx,by
  rw[h] at hx
  obtain ⟨a,b,d,rfl⟩:=Qgb.1 ((X1 ZS _).1 hx)
  exact .base b d⟩
 sn:=by rw[f,QsB]
 se x h0 b:=by rw[f]; exact Qt1 (fun y g=>QqX e h g) h0 b
 base a b d:=by rw[h]; exact (X1 ZS _).2 (Qgb.2 ⟨a,b,d,rfl⟩)
 cl j o hj:=by omega
theorem BlI.few (h:BlI c p r at_ out seen):out.length≤c.2.1.length:=Qn7 h.nd fun x b=>(h.q x b).1
theorem BlI.inr (h:BlI c p r at_ out seen)(b:out[k]? =some x):0≤x∧x < (c.2.1.length:Int):=(h.q x (ae b)).1
theorem BlI.push (h:BlI c p r at_ out seen)(I:∀a∈c.2.2,InR c.2.1.length a)(H:o∈out)(s:a∈c.2.2)(z:a.1=o)(A:¬Ua a r)(J:seen[a.2.2.2.toNat]? =some false):BlI c p r at_ (out++[a.2.2.2]) (seen.set a.2.2.2.toNat true):=by
 have f:=(I a s).2
 have m:a.2.2.2∉out:=fun G=>by have:=(h.se _ f.1 f.2).2 G; rw[J] at this; cases this
 have E:=h.sn
 refine ⟨by have:=h.rng; simp; omega, ?_,fun x d=> ?_,by rw[ay]; exact E,fun x w B=> ?_,fun b g F=>aS _ (h.base b g F),fun j K C d b g u v=> ?_⟩
 ·rw[bi]
  exact ⟨h.nd,by simp,fun x d y t e=>by rw[aD] at t; rw[e,t] at d; exact m d⟩
 ·rcases aM.1 d with d | d
  ·exact h.q x d
  ·rw[aD] at d; subst d
   exact ⟨f, .step s (by rw[z]; exact (h.q o H).2) A⟩
 ·rw[aM,aD]
  by_cases e:x=a.2.2.2
  ·subst e; rw[aY (by omega)]; simp
  ·rw[bh (by omega),h.se x w B]; simp[e]
 ·have D:=h.rng
  rw[bo (by omega)] at d
  exact aS _ (h.cl j K C d b g u v)
theorem BlI.next (h:BlI c p r at_ out seen)(h0:at_ < (out.length:Int))(f:out[at_.toNat]? =some o)(d:∀a∈c.2.2,a.1=o→¬Ua a r→a.2.2.2∈out):BlI c p r (at_+1) out seen:=by
 refine ⟨by have:=h.rng; omega,h.nd,h.q,h.sn,h.se,h.base,fun j g m b=> ?_⟩
 by_cases e:(j:Int)=at_
 ·have:j=at_.toNat:=by omega
  subst this
  rw[f] at b; cases b
  exact d
 ·exact h.cl j g (by omega) b
theorem QxA (h:BlI c p r at_ out seen)(g:∀a∈c.2.2,InR c.2.1.length a)(h0:¬at_ < (out.length:Int)):ofG ltI out=He c p r:=by
 refine TO.ext ZS (UH ZS _) (QdT c p r).str fun x=> ?_
 rw[X1 ZS,Qjr g]
 refine ⟨fun e=>(h.q x e).2,fun e=> ?_⟩
 induction e with
 | base b d=>exact h.base _ b d
 | step b _ d m=>
  obtain ⟨j,f⟩:=aL.1 m
  have:=(ah.1 f).1
  exact h.cl j _ (by omega) f _ b rfl d
end
section
variable {c:DSg}{as_:List DAr}{a:DAr}{p r:Int×Bool}{k i j n:Nat}{l:List Int}
end
theorem QaL (c:ZX)(F:∀a∈c.2.2,InR c.2.1.length a)(K:c.2.2.length≤4000∧c.2.1.length≤300):FC Tryz.prog 410 [(true,[.dat Ql c.1, .dat Qj c.2.1, .dat Qv c.2.2])] [] 0 (YV 123 Qi (Zp c.2.1.length (ixE c.2.2))):=by
 refine Qp Tryz.func410 rfl rfl Tryz.ntmps410 fun I B H w J A z=> ?_
 refine w_ ?_
 refine xbx 0 ?_
 refine w5 ?_
 refine alL 7 fun _=> ?_
 refine w_ ?_
 refine lc (Xr 1 (e:=Qi) (n:=c.2.1.length) (Qa rfl) (Qa rfl) Wl Qli rfl (by omega) (by omega) rfl (Fresh.of rfl) (nlr rfl)) ?_
 refine w6 ?_
 refine alL 11 fun _=> ?_
 refine w4 ?_
 refine lp0 c.2.2.length (fun k=>⟨[(2,lf (.val (.slice none 0 0))),(3,lR 2),(11,lf (.dat Qv c.2.2)),(12,lI (c.2.2.length:Int)),(13,lI (k:Int))],[(2,some (.arr 123 Qi (Zp c.2.1.length ((ixE c.2.2).take k))))]⟩) ?_ fun k _=> ?_
 exact wp [(2,1)] ⟨(Qk (by simp only[List.take_zero]; rfl)),trivial⟩
 refine w4 ?_
 cases h:(decide ((k:Int) < (c.2.2.length:Int)))
 have m:=aa h
 refine w7 ?_
 refine Qd<|fo_ B ?_
 ·(rw[Za (by rw[Qac]; omega)]; done)
 have m:=ab h
 refine w6 ?_
 obtain ⟨ar,s⟩:=gx c.2.2 k
 refine w2 ?_
 refine lc (xal 3 YE ZG) ?_
 refine w3 ?_
 obtain ⟨⟨C,D⟩,_⟩:=F _ (ae s)
 have E:=Xp (n:=c.2.1.length) (es:=(ixE c.2.2).take k)
 obtain ⟨ys,f⟩:=gx (Zp c.2.1.length ((ixE c.2.2).take k)) ar.1.toNat
 have G:=Ux f
 have u:((ixE c.2.2).take k).length≤c.2.2.length:=by simp only[ap,Qac]; omega
 have d:=Qpk f
 have g:ar.1.toNat*1+0 < (Q5 Qi (Zp c.2.1.length ((ixE c.2.2).take k))).length:=by rw[Vo]; show ar.1.toNat*1+0 < (Zp c.2.1.length ((ixE c.2.2).take k)).length*1; omega
 refine AC.wk (K2 (q:=2) rfl (by omega))<|AC.wk (Ub 4 (q:=2) (p:=ar.1.toNat*1+0) (E':=3) (e':= .int) (ys:=ys) rfl (d) (Fresh.of rfl) (aF rfl)) ?_
 apply dV (i6 18 _ _ _ _ _ _ [io 24 (lf (.ept 2 1 ((ar.1).toNat) 0)),io 25 (lR 4),io 26 _,⟨some 27,lR 5,[(5,some (.arr 3 .int ([(k:Int)])))]⟩,⟨some 28,lR 6,[(6,some (.arr 3 .int (ys++([(k:Int)])))),(4,none),(5,none)]⟩,io 29 (lf (.ept 2 1 ((ar.1).toNat) 0)),⟨none,lf (.val undef),[(2,some (.obx 123 1 ((Zp c.2.1.length ((ixE c.2.2).take k)).length) (Q5 Qi (Zp c.2.1.length ((ixE c.2.2).take k))) [((ar.1).toNat*1+0, .ref 6),(ar.1.toNat*1+0, .ref 4)]))]⟩]) [0,1,1,7,15,15,7,7,255,255,7,0,0]
 refine z6 ?_
 refine zz (fun _ b=>ac (Yk (b.v rfl) (b.en 2 rfl) (b.v rfl) Wl Yv rfl (by omega) (by omega)) rfl) ?_
 refine zz (fun _ b=>ac (UW (b.v rfl) (b.n 2 rfl) (show (ovr _ _)[ar.1.toNat*1+0]? =some (.ref 4) from by simp only[ovr,bB,ay,g,d,ea,if_true,if_false,↓reduceIte]) (b.n 4 rfl) Yv rfl) rfl) ?_
 refine z_ ?_
 refine zz (fun _ b=>ac (dBs 5 (e:= .int) Yt) rfl) ?_
 refine zz (fun _ b=>ac (dA 6 XC) rfl) ?_
 refine zz (fun _ b=>ac (Yk (b.v rfl) (b.en 2 rfl) (b.v rfl) Wl Yv rfl (by omega) (by omega)) rfl) ?_
 refine zz (fun _ b=>ac (WA (t:=4) (b.v rfl) (b.n 2 rfl) (show (ovr _ _)[ar.1.toNat*1+0]? =some (.ref 4) from by simp only[ovr,bB,ay,g,d,ea,if_true,if_false,↓reduceIte]) (b.v rfl) (b.n 6 rfl) Yv) rfl) ?_
 exact zN
 refine w_ ?_
 refine AC.wk (Kv (q:=2) (t:=6) (p:=ar.1.toNat*1+0) rfl (by simp only[ovr,bB,ay,g,d,ea,if_true,if_false,↓reduceIte]) rfl) ?_
 refine AC.wk (Uu (q:=2) (e:=Qi) ((Zp c.2.1.length ((ixE c.2.2).take k)).set ar.1.toNat (ys++[(k:Int)])) rfl (by simp only[ay]) (by simp only[ovr,dl]; exact QdE f)) ?_
 refine w3 ?_
 refine Qb ?_
 refine l0_ ?_
 exact wp [] ⟨(Qk (QdW (e:=(ar.1,(k:Int))) (Qkl s) f)),trivial⟩
end Go.Proofs.YtndabgcpnmeeoaaGreat
namespace Go.Proofs.YtndabgcpnmeeoaaGreat
open Go.RowKit
set_option maxRecDepth 100000
set_option maxHeartbeats 4000000
def sg0 (n:Nat)(block:List Int):List UInt8:=(List.range n).map fun k:Nat=>if (k:Int)∈block then (49:UInt8) else 48
def Qpi (block:List Int)(s:List UInt8)(a:DAr):List UInt8:=if¬a.1∈block∧a.2.2.2∈block then s.set a.2.2.2.toNat 43 else if a.1∈block∧¬a.2.2.2∈block then s.set a.2.2.2.toNat 45 else s
def inA (c:DSg)(a:DAr):Bool:=decide (a.2.1 < 0)||decide (((c.1[a.2.1.toNat]?).getD (ByteArray.empty,0)).2=1)
def sAt (s:List UInt8)(x:Int):UInt8:=(s[x.toNat]?).getD 0
def JU (c:DSg)(block:List Int)(s:List UInt8)(a:DAr):List UInt8:=if (sAt s a.1=43∨sAt s a.1=45)∧inA c a=true∧(a.1∈block↔a.2.2.2∈block) then s.set a.2.2.2.toNat (sAt s a.1) else s
def Qot (c:DSg)(block:List Int)(s:List UInt8):List UInt8:=c.2.2.foldl (JU c block) s
def QwQ (c:DSg)(block:List Int):List UInt8:=c.2.2.foldl (Qpi block) (sg0 c.2.1.length block)
def Qx1 (c:DSg)(block:List Int):List UInt8:=Q3 (Qot c block) c.2.1.length (QwQ c block)
def Qw2 (c:DSg)(block:List Int):ByteArray:=⟨(Qx1 c block).toArray⟩
structure SI (n:Nat) (block:List Int) (s:List UInt8):Prop where
  len:s.length=n
  at_:∀x:Int,0≤x→x < (n:Int)→(x∈block∧(sAt s x=49∨sAt s x=43))∨(¬x∈block∧(sAt s x=48∨sAt s x=45))
def nMk (s:List UInt8):Nat:=(s.filter fun x=>decide (x=43∨x=45)).length
def cMk (s:List UInt8):Nat:=(s.filter fun x=> !decide (x=43∨x=45)).length
section
variable {c:DSg}{as_:List DAr}{a:DAr}{block:List Int}{k i n m:Nat}{s s2 sg:List UInt8}{x y:Int}{z zf zt u v:UInt8}{ch:Bool}
theorem Qm8 {α:Type}{l:List α}{j:Nat}{w:α}(h:l[j]? =some w):l.set j w=l:=by
 apply bK
 intro i
 by_cases e:j=i
 ·subst e; rw[aY (ah.1 h).1,h]
 ·rw[bh e]
theorem Qtb (h:s[x.toNat]? =some z):sAt s x=z:=by unfold sAt; rw[h]; rfl
theorem QrU (f:s.length=n)(h0:0≤y)(b:y < (n:Int))(d:0≤x):sAt (s.set y.toNat z) x=if x=y then z else sAt s x:=by
 unfold sAt
 by_cases e:x=y
 ·subst e; rw[aY (by omega),if_pos rfl]; rfl
 ·rw[bh (by omega),if_neg e]
theorem SI.set (h:SI n block s)(h0:0≤y)(g:y < (n:Int))(j:(y∈block∧z=43)∨(¬y∈block∧z=45)):SI n block (s.set y.toNat z):=by
 refine ⟨by rw[ay]; exact h.len,fun x f l=> ?_⟩
 rw[QrU h.len h0 g f]
 by_cases e:x=y
 ·subst e
  rw[if_pos rfl]
  rcases j with ⟨b,d⟩ | ⟨b,d⟩
  ·exact .inl ⟨b, .inr d⟩
  ·exact .inr ⟨b, .inr d⟩
 ·rw[if_neg e]; exact h.at_ x f l
theorem Qxx (h:SI n block s)(b:InR n a):SI n block (Qpi block s a):=by
 unfold Qpi
 split
 ·rename_i g; exact h.set b.2.1 b.2.2 (.inl ⟨g.2,rfl⟩)
 ·split
  ·rename_i g; exact h.set b.2.1 b.2.2 (.inr ⟨g.2,rfl⟩)
  ·exact h
theorem SI.val (h:SI n block s)(j:InR n a)(d:sAt s a.1=43∨sAt s a.1=45)(f:a.1∈block↔a.2.2.2∈block):(a.2.2.2∈block∧sAt s a.1=43)∨(¬a.2.2.2∈block∧sAt s a.1=45):=by
 rcases h.at_ a.1 j.1.1 j.1.2 with ⟨e,b⟩ | ⟨e,b⟩
 ·refine .inl ⟨f.1 e, ?_⟩
  rcases b with b | b
  ·rw[b] at d; rcases d with d | d <;> exact absurd d (by decide)
  ·exact b
 ·refine .inr ⟨fun g=>e (f.2 g), ?_⟩
  rcases b with b | b
  ·rw[b] at d; rcases d with d | d <;> exact absurd d (by decide)
  ·exact b
theorem QiA (q:UInt8→Bool):∀{s:List UInt8} {j:Nat} {u v:UInt8},s[j]? =some u→q u=false→q v=true→((s.set j v).filter q).length=(s.filter q).length+1
 | [],j,u,v,h,_,_=>by simp at h
 | w :: s,0,u,v,h,h1,h2=>by
  simp at h; subst h
  simp[h1,h2]
 | w :: s,j+1,u,v,h,h1,h2=>by
  have b:=QiA q (s:=s) (j:=j) (by simpa using h) h1 h2
  rw[bI]
  by_cases e:q w=true
  ·rw[dd e,dd e,au,au,b]
  ·rw[cD e,cD e,b]
theorem Qfh (q:UInt8→Bool):∀{s:List UInt8} {j:Nat} {u v:UInt8},s[j]? =some u→q u=true→q v=false→((s.set j v).filter q).length+1=(s.filter q).length
 | [],j,u,v,h,_,_=>by simp at h
 | w :: s,0,u,v,h,h1,h2=>by
  simp at h; subst h
  simp[h1,h2]
 | w :: s,j+1,u,v,h,h1,h2=>by
  have b:=Qfh q (s:=s) (j:=j) (by simpa using h) h1 h2
  rw[bI]
  by_cases e:q w=true
  ·rw[dd e,dd e,au,au,b]
  ·rw[cD e,cD e,b]
theorem Qkp (h:SI n block s)(f:InR n a):SI n block (JU c block s a)∧(JU c block s a=s∨(nMk s < nMk (JU c block s a)∧cMk (JU c block s a) < cMk s)):=by
 unfold JU
 split
 ·rename_i g
  have q:=h.val f g.1 g.2.2
  refine ⟨h.set f.2.1 f.2.2 q, ?_⟩
  have r:=h.len
  have l:s[a.2.2.2.toNat]? =some (sAt s a.2.2.2):=by
   unfold sAt
   rw[aj (by have:=f.2; omega)]; rfl
  by_cases e:sAt s a.2.2.2=sAt s a.1
  ·exact .inl (by rw[← e]; exact Qm8 l)
  ·right
   have b:¬(sAt s a.2.2.2=43∨sAt s a.2.2.2=45):=fun b=>by
    rcases h.at_ a.2.2.2 f.2.1 f.2.2 with ⟨j,d⟩ | ⟨j,d⟩ <;> rcases q with ⟨o,p⟩ | ⟨o,p⟩
    ·rcases d with d | d
     ·rw[d] at b; rcases b with b | b <;> exact absurd b (by decide)
     ·exact e (d.trans p.symm)
    ·exact o j
    ·exact j o
    ·rcases d with d | d
     ·rw[d] at b; rcases b with b | b <;> exact absurd b (by decide)
     ·exact e (d.trans p.symm)
   constructor
   ·unfold nMk
    rw[QiA _ l (aB b) (aE g.1)]; omega
   ·unfold cMk
    have:=Qfh (fun x=> !decide (x=43∨x=45)) l (by simp only[aB b]; rfl) (v:=sAt s a.1) (by simp only[aE g.1]; rfl)
    omega
 ·exact ⟨h, .inl rfl⟩
structure PI (c:DSg) (block:List Int) (sg:List UInt8) (i:Nat) (s:List UInt8) (ch:Bool):Prop where
  si:SI c.2.1.length block s
  eq:Qot c block sg=(c.2.2.drop i).foldl (JU c block) s
  no:ch=false→s=sg
  yes:ch=true→cMk s < cMk sg
  le:cMk s≤cMk sg
theorem PI.start (h:SI c.2.1.length block sg):PI c block sg 0 sg false:=⟨h,rfl,fun _=>rfl,(fun h=>by cases h),aK _⟩
theorem Qla (e:as_[i]? =some a):as_.drop i=a :: as_.drop (i+1):=by
 obtain ⟨b,d⟩:=ah.1 e
 rw[List.drop_eq_getElem_cons b,d]
theorem PI.skip (h:PI c block sg i s ch)(d:c.2.2[i]? =some a)(b:JU c block s a=s):PI c block sg (i+1) s ch:=⟨h.si,by rw[h.eq,Qla d,aN,b],h.no,h.yes,h.le⟩
theorem Qyk (h:PI c block sg i s ch)(t:∀a∈c.2.2,InR c.2.1.length a)(j:c.2.2[i]? =some a)(p:s[a.1.toNat]? =some u)(f:s[a.2.2.2.toNat]? =some v)(r:u=43∨u=45)(hi:inA c a=true)(hb:a.1∈block↔a.2.2.2∈block)(d:¬v=u):PI c block sg (i+1) (s.set a.2.2.2.toNat u) true:=by
 have q:=t a (ae j)
 have b:JU c block s a=s.set a.2.2.2.toNat u:=by
  unfold JU
  rw[Qtb p,if_pos ⟨r,hi,hb⟩]
 obtain ⟨l,o⟩:=Qkp (c:=c) h.si q
 rw[b] at l o
 have w:¬s.set a.2.2.2.toNat u=s:=fun e=>by
  have g:(s.set a.2.2.2.toNat u)[a.2.2.2.toNat]? =some u:=aY (ah.1 f).1
  rw[e,f] at g
  cases g; exact d rfl
 have A:=(o.resolve_left w).2
 have:=h.le
 exact ⟨l,by rw[h.eq,Qla j,aN,b],(fun h=>by cases h),fun _=>by omega,by omega⟩
theorem PI.end_ (h:PI c block sg i s ch)(hi:c.2.2.length≤i):s=Qot c block sg:=by rw[h.eq,bR hi]; rfl
theorem Qgg {c:DSg}{a:DAr}(h:UM (c.1.length:Int) (a.2.1,a.2.2.1)):a.2.1 < (c.1.length:Int):=by
 rcases h with h | h
 ·have:=h.2; simp only at this; omega
 ·have:=h.1; simp only at this; omega
end
end Go.Proofs.YtndabgcpnmeeoaaGreat
namespace Go.Proofs.YtndabgcpnmeeoaaGreat
open Go.RowKit
set_option maxRecDepth 100000
set_option maxHeartbeats 4000000
def sgF (n:Nat)(block:List Int)(k:Nat):List UInt8:=sg0 k block++List.replicate (n - k) 0
def okB (c:DSg)(p r:Int×Bool):Bool:=QtJ c (Qw2 c (He c p r))&&(decide (0 < ((He c p r).length:Int))&&decide (((He c p r).length:Int) < (c.2.1.length:Int)))
def QyA (c:DSg)(p r:Int×Bool):ByteArray:=if okB c p r=true then Qw2 c (He c p r) else ⟨#[]⟩
section
variable {c:DSg}{as_:List DAr}{a:DAr}{block:List Int}{k i j n:Nat}{s:List UInt8}{u:UInt8}{p r:Int×Bool}{x:Qz}
end
end Go.Proofs.YtndabgcpnmeeoaaGreat
