/- Abstract states: an own slice whose elements are frozen slices. No program is named here. -/
import Derived.Test.YtndabgcpnmeeoaaGreatPBp
import Derived.Test.YtndabgcpnmeeoaaGreatPVh
set_option linter.unusedSimpArgs false
set_option linter.unusedVariables false
set_option linter.unusedSectionVars false
namespace Go.Proofs.YtndabgcpnmeeoaaGreat
open Go.RowKit
section
variable {N:Nat→Prop}{w:World}{e:Ty}
theorem FzL.len:∀{vs:List Hdr} {xs:List e.Den},FzL N w e vs xs→vs.length=xs.length
 | [],xs,h=>by rw[show xs=[] from h]; rfl
 | v :: vs,_,⟨x,r,h1,_,h3⟩=>by rw[h1,au,au,FzL.len h3]
theorem FzL.app:∀{vs:List Hdr} {xs:List e.Den} {a:List Hdr} {ys:List e.Den},FzL N w e vs xs→FzL N w e a ys→FzL N w e (vs++a) (xs++ys)
 | [],_,_,_,h,k=>by rw[show _=[] from h]; exact k
 | v :: vs,_,_,_,⟨x,r,h1,h2,h3⟩,k=>⟨x,r++_,by rw[h1]; rfl,h2,FzL.app h3 k⟩
theorem FzL.at:∀{vs:List Hdr} {xs:List e.Den} {j:Nat} {y:e.Den},FzL N w e vs xs→xs[j]? =some y→∃z,vs[j]? =some z∧Rd N e w [hdV z] y
 | [],_,_,_,h,hy=>by rw[show _=[] from h] at hy; cases hy
 | v :: vs,_,0,y,⟨x,r,h1,h2,h3⟩,hy=>by subst h1; cases hy; exact ⟨v,rfl,h2⟩
 | v :: vs,_,j+1,y,⟨x,r,h1,h2,h3⟩,hy=>by subst h1; exact FzL.at (j:=j) h3 hy
theorem FzL.of {f:Hdr→e.Den}:∀{vs:List Hdr},(∀v∈vs,Rd N e w [hdV v] (f v))→FzL N w e vs (vs.map f)
 | [],_=>rfl
 | v :: vs,h=>⟨f v,vs.map f,rfl,h v (az ..),FzL.of fun u a=>h u (ay _ a)⟩
theorem Qvy {E:TypeId}{e:Ty}:∀{vs:List Hdr} {xs:List (List e.Den)},FzL N w (.sl E e) vs xs→vs.map (rdF E e w)=xs∧∀v∈vs,Rd N (.sl E e) w [hdV v] (rdF E e w v)
 | [],_,h=>⟨by rw[show _=[] from h]; rfl,fun _ h=>by cases h⟩
 | v :: vs,_,⟨x,r,h1,h2,h3⟩=>by
  obtain ⟨c,f⟩:=Qvy h3
  have b:rdF E e w v=x:=QgM h2.rep
  refine ⟨by rw[br,c,b,h1],fun u a=> ?_⟩
  rcases aK.1 a with rfl | a
  ·rw[b]; exact h2
  ·exact f u a
theorem QlK {E:TypeId}{e:Ty}{f:Hdr→List e.Den}{vs:List Hdr}{a:List Nat}(h:OwnL (Own (.sl E e) w) a (vs.map hdV) (vs.map f))(b:∀g∈a,N g):FzL N w (.sl E e) vs (vs.map f):=FzL.of fun v i=>by
 obtain ⟨l,j,k⟩:=Qaf h v i
 exact j.rd fun g c=>b g (k g c)
end
section
variable {A:Amb}{P:Program}{s:St}
theorem Rg.toFz {gh:Gh}{a:Act}{w:World}{q:Nat}{E E':TypeId}{e:Ty}{xs:List (List e.Den)}(r:Rg A s gh a w)(I:s.tab.ent q=some (.arr E (.sl E' e) xs)):∃gh',gh'.h=gh.h∧Rg A ⟨s.tm,(q,some (.fz E (.sl E' e) xs)) :: s.tab⟩ gh' a w:=by
 have n:s.tab.al q:=⟨_,I⟩
 have O:Own (.sl E (.sl E' e)) w (gh.f q) [gh.h q] xs:=r.cx.en q _ I
 obtain ⟨v,G,X,f,B,K,L,M⟩:=Qla O
 have o:=r.cx.nd q n
 rw[B] at o
 obtain ⟨U,Y,V⟩:=bu.1 o
 have S:∀g∈v,g∈gh.f q:=fun g i=>by rw[B]; exact aT _ i
 have u:∀g∈G,g∈gh.f q:=fun g i=>by rw[B]; exact aR _ i
 have j:∀t,Tab.al ((q,some (.fz E (.sl E' e) xs)) :: s.tab) t→s.tab.al t:=fun t ⟨x,m⟩=>by
  rw[Qj] at m
  by_cases c:t=q
  ·rw[c]; exact n
  ·rw[if_neg c] at m; exact ⟨_,m⟩
 let gh':Gh:=⟨gh.h,fun t=>if t=q then v else gh.f t,fun g=>gh.N g∨g∈G⟩
 have p:gh'.f q=v:=if_pos rfl
 have z:∀t,t≠q→gh'.f t=gh.f t:=fun t c=>if_neg c
 have k:∀t,∀g∈gh'.f t,g∈gh.f t:=fun t g i=>by
  by_cases c:t=q
  ·rw[c,p] at i; rw[c]; exact S g i
  ·rwa [z t c] at i
 have H:∀g,gh.N g→gh'.N g∧w.heap[g]? =w.heap[g]? :=fun g h=>⟨.inl h,rfl⟩
 refine ⟨gh',rfl,r.step ⟨fun t x m=> ?_,fun t F l D R g i C=>r.cx.dj t F (j t l) (j F D) R g (k t g i) (k F g C),fun t l=> ?_,fun t l g i b=> ?_,fun g b=> ?_⟩ (fun t l=> .inl ⟨j t l,rfl,fun _=>rfl⟩) H (Zk w) (fun _ _ _=>rfl) (fun g b=> ?_) fun t l g i=> .inr ⟨t,j t l,k t g i⟩⟩
 ·rw[Qj] at m
  by_cases c:t=q
  ·rw[if_pos c] at m
   cases m
   rw[c]
   refine ⟨X, ?_, ?_⟩
   ·rw[p]; exact K
   ·rw[← M]; exact QlK L fun g i=> .inr i
  ·rw[if_neg c] at m
   exact (r.cx.en t x m).mono (fun W _ Q=>⟨j W Q,rfl⟩) H rfl (z t c) fun _ _=>rfl
 ·by_cases c:t=q
  ·rw[c,p]; exact U
  ·rw[z t c]; exact r.cx.nd t (j t l)
 ·rcases b with b | b
  ·exact r.cx.no t (j t l) g (k t g i) b
  ·by_cases c:t=q
   ·rw[c,p] at i; exact V g i g b rfl
   ·exact r.cx.dj t q (j t l) n c g (k t g i) (u g b)
 ·rcases b with b | b
  ·exact r.cx.nl g b
  ·exact r.cx.lt n g (u g b)
 ·rcases b with b | b
  ·exact .inl b
  ·exact .inr (.inr ⟨q,n,u g b,fun J=>r.xn g J (r.ox q n g (u g b) J)⟩)
theorem Wk.toFz {q:Nat}{E E':TypeId}{e:Ty}{xs:List (List e.Den)}(b:s.tab.ent q=some (.arr E (.sl E' e) xs)):Wk A s ⟨s.tm,(q,some (.fz E (.sl E' e) xs)) :: s.tab⟩:=fun _ _ ⟨_,r⟩=>by
 obtain ⟨a,_,c⟩:=r.toFz b
 exact ⟨a,c⟩
theorem QlR {i q:Nat}{E E':TypeId}{e:Ty}{xs:List (List e.Den)}(hi:lk s.tm i=some (lf (.ref q)))(p:s.tab.ent q=some (.fz E (.sl E' e) xs)):
 Wk A s ⟨(i,lf (.dat (.sl E (.sl E' e)) xs)) :: s.tm,(q,none) :: s.tab⟩:=fun a w r=>by
 obtain ⟨c,r⟩:=r
 obtain ⟨v,Q,l,D,R⟩:=r.tm i _ hi
 simp only[aC,and_true] at D
 subst D
 have V:v=c.h q:=R ⟨_,p⟩
 obtain ⟨zs,S,F⟩:=r.cx.en q _ p
 have B:=F.len
 refine ⟨_,(r.freeze p).know Q (pv:=lf (.dat (.sl E (.sl E' e)) xs)) ⟨_,rfl, ?_⟩⟩
 rw[V]
 show Rd (fun g=>c.N g∨g∈c.f q) (.sl E (.sl E' e)) w [c.h q] xs
 obtain ⟨wM,Y,G⟩:=Jm (fun g=>c.N g∨g∈c.f q) w
 refine ⟨wM,Y, ?_⟩
 rcases S with ⟨_,n,o⟩ | ⟨g,m,H,fps,K,n,o,L,M,g6,O⟩
 ·have W:xs=[]:=cg (by rw[← B,o]; rfl)
  subst W
  exact ⟨none,0,n,aJ _,aG _,fun h=>absurd h (by simp)⟩
 ·refine ⟨_,m,by rw[← B]; exact n,by rw[← B]; exact L,M,fun _=>⟨g,0,rfl,fun j y X=> ?_⟩⟩
  obtain ⟨z,C,wN,w1,w2⟩:=F.at X
  refine ⟨[hdV z],w2.kp (w1.kp fun J t=>G J (.inl t)),fun b u U=> ?_⟩
  obtain ⟨fv,I,Z,o2,o3⟩:=O.get j z C
  have o4:I=[hdV z]:=Z.2
  subst o4
  have k:=o3 b u U
  rw[bc] at k
  split at k
  ·rw[cX (G g (.inr (by rw[K]; simp)))]
   simp only[World.cell?,o]
   simpa using k
  ·cases k
end
section
variable {A:Amb}{P:Program}{s:St}{x y:Operand}{d:Nat}{T ty:TypeId}{pos:String}{af:Array Edge}{g:Option (Nat×Bool)}
@[reducible] def St.mkF (s:St) (d t:Nat) (used:List Nat) (E:TypeId) (e:Ty) (xs:List e.Den):St:=⟨(d,lf (.ref t)) :: s.tm,(t,some (.fz E e xs)) :: (U1 used++s.tab)⟩
theorem QvP {E:TypeId}{e:Ty}{xs ys:List e.Den}(h:xs=ys):some (Ent.fz E e xs)=some (Ent.fz E e ys):=congrArg (fun z=>some (Ent.fz E e z)) h
theorem Qg4 (t:Nat){q j:Nat}{E:TypeId}{e:Ty}{xs ys:List e.Den}(m:Evl A s x (.ref q))(f:s.tab.ent q=some (.fz E e xs))(H:Evl A s y (.ref j))(i:s.tab.ent j=some (.fz E e ys))
 (hT:P.underlying T=some (.slice E)) (hE:Wx P E 1=true) (hb:xs.length+ys.length≤1073741824) (hn:Nat.blt d A.n=true) (hfr:Fresh s t) (hk0:A.k0≤t):
 Does A P ⟨some d, .call {callee:= .builtin .append,args:= #[x,y],argTypes:= #[T,T]},ty,pos,af,g⟩ s (s.mkF d t [q] E e (xs++ys)):=fun a w K Q r G=>by
 obtain ⟨b,r⟩:=r
 obtain ⟨U,D,p⟩:=r.cx.en q _ f
 obtain ⟨o,F,u⟩:=r.cx.en j _ i
 obtain ⟨W,B,C,I,v,J,L,M,z⟩:=QgO (P:=P) T ty hT (Qi4 (e:= .vl) hE) D (r.cx.nd q ⟨_,f⟩) ((Own.rep F).srcOk rfl) bL (by simp) (by simp) (by rw[p.len,u.len]; exact hb)
 have c:∀g,b.N g→b.N g∧B.heap[g]? =w.heap[g]? :=fun g k=>⟨k,z g (r.cx.nl g k) fun h=>r.cx.no q ⟨_,f⟩ g h k⟩
 have O:=r.make t hfr hk0 [q] (by simp only[aK,cO,or_false]; rintro _ rfl; exact ⟨_,f⟩) M (fun g l m=>z g l (m q (by simp))) v J (fun g l=>by
  rcases L g l with h | h | h
  ·exact .inr ⟨q,by simp,h⟩
  ·cases h
  ·exact .inl h)
 have R:=O.mod (q:=t) (Qj .. |>.trans (if_pos rfl)) (Zk B) (fun _ _ _=>rfl) (e:= .fz E e (xs++ys)) ⟨U++o,by simpa using v,(p.mono c).app (u.mono c)⟩
 have S:=R.ext (s':=⟨s.tm,(t,some (.fz E e (xs++ys))) :: (U1 [q]++s.tab)⟩) (fun _=>rfl) fun V=>by
  rw[Qj,Qj]
  split
  ·rfl
  ·rename_i h; rw[Qj,if_neg h]
 refine QgY rfl (by rw[show a.eval x=b.h q from m b a w r ⟨_,f⟩,show a.eval y=b.h j from H b a w r ⟨_,i⟩]; exact I) (G _ _ ⟨_,S.put (aD hn) (pv:=lf (.ref t)) ⟨_,rfl,fun _=>by simp⟩⟩)
theorem QiD (t:Nat){E E':TypeId}{e:Ty}{ys:List e.Den}{z:Value}(U:P.underlying T=some (.slice E))(R:tsh P E=some (false,1))(Z:zer P E=some z)(Y:Ev A s y (false,[.dat (.sl E' e) ys]))(V:0 < ys.length)(W:Nat.blt d A.n=true)(H:Fresh s t)(I:A.k0≤t):
 Does A P ⟨some d, .buildSlice T 1 #[(0,y)],ty,pos,af,g⟩ s (s.mkF d t [] E (.sl E' e) [ys]):=fun a w K Q r S=>by
 obtain ⟨B,r⟩:=r
 obtain ⟨l,m,X⟩:=Y B a w r
 simp only[aC,and_true] at m
 subst m
 have u:Rd B.N (.sl E' e) w [a.eval y] ys:=X
 obtain ⟨A',c,M,h2,h3,O⟩:=u.rep
 obtain ⟨b,o,rfl,_⟩:=O V
 have C:a.eval y=hdV (some (b,o,ys.length,c)):=by simpa [hdV] using M
 have F:(a.eval y).cells.size=1:=by rw[C]; rfl
 obtain ⟨f,k1,k2⟩:=Qgh 1 [a.eval y] 0 ((Array.range (1*1)).map ((z.cells)[· % (z.cells).size]!)) (by simpa using F) (by simp)
 have v:(execOp a.eval ⟨some d, .buildSlice T 1 #[(0,y)],ty,pos,af,g⟩).run P w= .ok (.value (.slice (some ⟨w.heap.size,0,none⟩) 1 1)) (w.alloc (.cells f E)):=by
  simp only[execOp,Instr.buildSlice,av,run_underlying U,aE,Xw R]
  rw[if_neg (by decide),if_neg (by decide)]
  simp only[aY,aE,av,Uz Z]
  rw[show (Array.map (fun p:Nat×Operand=>(p.1,a.eval p.2)) #[(0,y)]).toList=([a.eval y].zipIdx 0).map fun p=>(p.2,p.1) by simp,k1]
  simp[newRow,av]
 unfold Oper.wp
 rw[v,Oper.upon_value]
 have j:∀g,g < w.heap.size→(w.alloc (.cells f E)).heap[g]? =w.heap[g]? :=fun g k=>Below.heap_alloc w _ g k
 have i:f.toList=[hdV (some (b,o,ys.length,c))]:=by
  rw[k2,C]; rfl
 have G:f.size=1:=by rw[show f.size=f.toList.length by simp,i]; rfl
 have D:∀g,B.N g→B.N g∧(w.alloc (.cells f E)).heap[g]? =w.heap[g]? :=fun g J=>⟨J,j g (r.cx.nl g J)⟩
 have L:Own (.sl E .vl) (w.alloc (.cells f E)) [w.heap.size] [.slice (some ⟨w.heap.size,0,none⟩) 1 1] [some (b,o,ys.length,c)]:= .inr ⟨w.heap.size,1,f,[],rfl,rfl,heap_alloc_new w _,by simp,by unfold maxLen; omega,G,by
  rw[bj (by rw[i]; exact aJ _),i]
  exact ⟨[],[],[hdV (some (b,o,ys.length,c))],[],rfl,rfl,⟨rfl,rfl⟩,⟨rfl,rfl⟩⟩⟩
 have r2:=r.make (w':=w.alloc (.cells f E)) t H I [] (by simp) ⟨rfl,rfl,rfl,by simp⟩ (fun g k _=>j g k) (hv:= .slice (some ⟨w.heap.size,0,none⟩) 1 1) (fp:=[w.heap.size]) (E:=E) (e:= .vl) (xs:=[some (b,o,ys.length,c)])
  L (by simp) (fun g k=> .inl (by simp at k; omega))
 have r3:=r2.mod (q:=t) (Qj .. |>.trans (if_pos rfl)) (Zk _) (fun _ _ _=>rfl) (e:= .fz E (.sl E' e) [ys]) ⟨[some (b,o,ys.length,c)],by simpa using L,ys,[],rfl,C▸u.mono D,rfl⟩
 have r4:=r3.ext (s':=⟨s.tm,(t,some (.fz E (.sl E' e) [ys])) :: (U1 []++s.tab)⟩) (fun _=>rfl) fun q'=>by
  rw[Qj,Qj]
  split
  ·rfl
  ·rename_i h; rw[Qj,if_neg h]
 exact S _ _ ⟨_,r4.put (aD W) (pv:=lf (.ref t)) ⟨_,rfl,fun _=>by simp⟩⟩
end
end Go.Proofs.YtndabgcpnmeeoaaGreat
namespace Go.Proofs.YtndabgcpnmeeoaaGreat
open Go.RowKit
set_option maxRecDepth 100000
set_option maxHeartbeats 4000000
def swL (as_:List DAr)(l:Int×Bool):List Int:=(as_.filter fun a=>decide (a.2.1=l.1∧a.2.2.1=l.2)).map fun a=>a.2.2.2
def Yu (c:DSg)(sig:Int):Bool:=decide (0≤sig)&&decide (((c.1[sig.toNat]?).getD (ByteArray.empty,0)).2=1)
def Q6 (l:List QM)(k:Nat):List Int:=((List.range k).filter fun i=> !decide (((l[i]?).getD (ByteArray.empty,0)).2=1)).map fun i=>((i:Nat):Int)
def Ye (c:DSg):ByteArray:=if Zq (fun x:QM=>decide (x.1=(⟨#[122,48]⟩:ByteArray))) c.1 < 0 then ⟨#[122,48]⟩ else if Zq (fun x:QM=>decide (x.1=(⟨#[122,49]⟩:ByteArray))) c.1 < 0 then ⟨#[122,49]⟩ else ⟨#[122,50]⟩
section
variable {c:DSg}{l:List Int}{as_:List DAr}{a:DAr}{p:Int×Bool}{k:Nat}{n m y sig:Int}{x:QM}{ss:List QM}
theorem Qv4 (p r:Int×Bool):Ty.beq QF p r=decide (p=r):=by rw[bP,Ty.beq_iff,decide_eq_true_iff]
theorem Qbt {p r:Int×Bool}(h:Ty.beq QF p r=true):p.1=r.1∧p.2=r.2:=by rw[(Ty.beq_iff _ _ _).1 h]; exact ⟨rfl,rfl⟩
theorem Qn2 {p r:Int×Bool}(h:Ty.beq QF p r=false):¬(p.1=r.1∧p.2=r.2):=fun g=>by
 have:p=r:=Prod.ext g.1 g.2
 rw[(Ty.beq_iff _ _ _).2 this] at h; cases h
theorem Qp3 {A B C:Prop}{p r:Int×Bool}[Decidable (((A∧B)∧C)∧¬p=r)](b:A)(d:B)(e:C):(!Ty.beq QF p r)=decide (((A∧B)∧C)∧¬p=r):=by
 rw[Qv4]
 by_cases h:p=r <;> simp[h,b,d,e]
theorem QpN (e:as_[k]? =some a)(b:a.2.1=p.1)(d:a.2.2.1=p.2):swL (as_.take k) p++[a.2.2.2]=swL (as_.take (k+1)) p:=by
 unfold swL
 rw[QO e,aZ,bl]; simp[b,d]
theorem Qtv (b:as_[k]? =some a)(h:¬(a.2.1=p.1∧a.2.2.1=p.2)):swL (as_.take k) p=swL (as_.take (k+1)) p:=by
 unfold swL
 rw[QO b,aZ,bl]; simp[h]
theorem Qu5:(swL as_ p).length≤as_.length:=by unfold swL; rw[aF]; exact bK ..
theorem V5 (b:ss[k]? =some x)(h:¬x.2=1):Q6 ss k++[(k:Int)]=Q6 ss (k+1):=by
 unfold Q6
 rw[bJ,aZ,bl]; simp[b,h]
theorem HH (b:ss[k]? =some x)(h:x.2=1):Q6 ss k=Q6 ss (k+1):=by
 unfold Q6
 rw[bJ,aZ,bl]; simp[b,h]
theorem KY:(Q6 ss k).length≤k:=by unfold Q6; rw[aF]; exact aU (bK ..) (by simp)
theorem KZ:y∈Q6 ss k↔∃i:Nat,y=(i:Int)∧i < k∧¬((ss[i]?).getD (ByteArray.empty,0)).2=1:=by
 unfold Q6
 simp only[bF,cn,cj,bO,bE]
 constructor
 ·rintro ⟨i,⟨b,d⟩,rfl⟩; exact ⟨i,rfl,b,d⟩
 ·rintro ⟨i,rfl,b,d⟩; exact ⟨i,⟨b,d⟩,rfl⟩
theorem QeH (h:¬0≤sig):false=Yu c sig:=by unfold Yu; rw[aB h]; rfl
theorem Qbr (h:0≤sig)(b:c.1[sig.toNat]? =some x):decide (x.2=1)=Yu c sig:=by unfold Yu; rw[aL h,b]; rfl
theorem Qws (b:∀j:Nat,(j:Int) < m→∀y,l[j]? =some y→y < n)(h:l[m.toNat]? =some n):l=XH ltI n l:=
 (Qil (k:=m.toNat) (fun j e y d=>by have:=b j (by omega) y d; simp[ltI,this]) h (by simp[ltI])).symm
theorem Qwr (d:∀j:Nat,(j:Int) < m→∀y,l[j]? =some y→y < n)(h0:0≤m)(e:m≤(l.length:Int))(h:∀y,l[m.toNat]? =some y→¬y < n∧y≠n):l.take m.toNat++n :: l.drop m.toNat=XH ltI n l:=
 (QpD (k:=m.toNat) (fun j f y b=>by have:=d j (by omega) y b; simp[ltI,this]) (by omega) fun y b=>by have:=h y b; simp[ltI,this]).symm
theorem QpE (d:∀j:Nat,(j:Int) < m→∀y,l[j]? =some y→y < n)(h0:0≤m)(b:m≤(l.length:Int))(h:∀y,l[m.toNat]? =some y→¬y < n∧y≠n):
 (([]++(l.take (0+m.toNat)).drop 0)++[n])++(l.take (m.toNat+(l.length - m.toNat))).drop m.toNat=XH ltI n l:=by
 rw[← Qwr d h0 b h,show m.toNat+(l.length - m.toNat)=l.length by omega,cZ]
 simp
abbrev Qg2:List ByteArray:=[(⟨#[122,48]⟩:ByteArray),(⟨#[122,49]⟩:ByteArray)]
theorem Qlu {y:ByteArray}(d:∀j,j < k→∀y,Qg2[j]? =some y→¬Zq (fun x:QM=>decide (x.1=y)) c.1 < 0)(b:Qg2[k]? =some y)(h:Zq (fun x:QM=>decide (x.1=y)) c.1 < 0):y=Ye c:=by
 unfold Ye
 match k,b with
 | 0,b=>cases b; rw[if_pos h]
 | 1,b=>
  cases b
  rw[if_neg (d 0 (by omega) _ rfl),if_pos h]
theorem Qlt (b:∀j,j < k→∀y,Qg2[j]? =some y→¬Zq (fun x:QM=>decide (x.1=y)) c.1 < 0)(d:¬(k:Int) < (Qg2.length:Int)):(⟨#[122,50]⟩:ByteArray)=Ye c:=by
 have d:2≤k:=by simp only[Qg2,au,aH] at d; omega
 unfold Ye
 rw[if_neg (b 0 (by omega) _ rfl),if_neg (b 1 (by omega) _ rfl)]
end
theorem Qb5 (l:List Int)(j:l.length≤1000000):FC Tryz.prog 268 [(false,[.ref 0])] [ar 0 3 .int l] 0 (YB 3 .int (ofG ltI l)):=by
 refine Qv Tryz.func268 rfl rfl Tryz.ntmps268 fun h f g b i e d=> ?_
 refine w5 ?_
 refine lc (dP 1 [] (Quv l (by omega)) QmV) ?_
 refine w3 ?_
 refine lc (dP 2 [] (QnL (VR l) (by rw[Qdm]; omega)) QmW) ?_
 refine w2 ?_
 refine Qd<|fo_ f ?_
 exact Qu6 _
theorem Qc8 (c:Zi)(p:JY)(B:c.2.2.length≤100000):FC Tryz.prog 583 [(true,[.dat Ql c.1, .dat Qo c.2.1, .dat Qw c.2.2]),(true,[dI p.1,dB p.2])] [] 0 (YB 3 .int (ofG ltI (swL c.2.2 p))):=by
 refine Qv Tryz.func583 rfl rfl Tryz.ntmps583 fun z r v i A o j=> ?_
 refine acG 1 0 fun _=> ?_
 refine w_ ?_
 refine xbx 0 ?_
 refine xbx 1 ?_
 refine w3 ?_
 refine lc (dBs 2 (e:= .int) Yk) ?_
 refine w6 ?_
 refine alL 10 fun _=> ?_
 refine w4 ?_
 refine lp0 c.2.2.length (fun k=>⟨[(3,lP 1 0),(4,lf (.val (.slice none 0 0))),(5,lR 3),(10,lf (.dat Qw c.2.2)),(11,lI (c.2.2.length:Int)),(12,lI (k:Int))],[bx 1 75 [dI p.1,dB p.2],ar 3 3 .int (swL (c.2.2.take k) p)]⟩) ?_ fun k _=> ?_
 exact wp [(3,2)] ⟨rfl,(Qe (by first | rfl | simp)),trivial⟩
 have t:=Qu5 (as_:=c.2.2.take k) (p:=p)
 have u:(c.2.2.take k).length≤c.2.2.length:=by simp only[ao]; omega
 refine w4 ?_
 cases f:(decide ((k:Int) < (c.2.2.length:Int)))
 have g:=aa f
 refine w5 ?_
 refine lc (dP 4 [(0,3)] (Qb5 (swL (c.2.2.take k) p) (by omega)) QfG) ?_
 refine w2 ?_
 refine Qd<|fo_ r ?_
 rw[QT (by omega)]
 have g:=ab f
 refine w5 ?_
 obtain ⟨d,b⟩:=gx c.2.2 k
 refine w2 ?_
 refine lc (xal 5 QD QU) ?_
 refine w2 ?_
 apply dW [io 16 _,io 17 (ag [dI d.2.1,dB d.2.2.1]),io 18 _,io 19 (lB (Ty.beq QF (d.2.1,d.2.2.1) p))] [0,0,3,0]
 refine z_ ?_
 refine zz (fun _ h=>ac (dK (Zf d) Y2) rfl) ?_
 refine z_ ?_
 refine zz (fun _ h=>ac (HT Qbc Qbb (h.w rfl) (h.w rfl) (p:=(d.2.1,d.2.2.1)) (q:=p) rfl rfl rfl) rfl) ?_
 exact zN
 cases s:(Ty.beq QF (d.2.1,d.2.2.1) p)
 refine w6 ?_
 refine Qb ?_
 refine l0_ ?_
 exact wp [] ⟨rfl,(Qe (by first | exact QpN b (Qbt ‹_›).1 (Qbt ‹_›).2 | exact Qtv b (Qn2 ‹_›))),trivial⟩
 refine w5 ?_
 refine alI 22 fun _=> ?_
 refine lc (dBs 6 (e:= .int) Yk) ?_
 refine lc (dA 7 XP) ?_
 refine w_ ?_
 refine Qb ?_
 refine w4 ?_
 refine Qb ?_
 refine l0_ ?_
 exact wp [(3,7)] ⟨rfl,(Qe (by first | exact QpN b (Qbt ‹_›).1 (Qbt ‹_›).2 | exact Qtv b (Qn2 ‹_›))),trivial⟩
theorem Ke (a:Qfy)(s:Int)(up:Bool):FC Tryz.prog 546 [(true,[dI a.1,dI a.2.1,dB a.2.2.1,dI a.2.2.2]),(false,[dI s]),(false,[dB up])] [] 0 (QY (lB (decide (a.2.1=s∧a.2.2.1=up)))):=by
 refine Qv Tryz.func546 rfl rfl Tryz.ntmps546 fun j e i f o h g=> ?_
 refine acG 0 0 fun _=> ?_
 refine acG 0 1 fun _=> ?_
 refine acG 0 3 fun _=> ?_
 refine acI 1 fun _=> ?_
 refine w_ ?_
 refine xbx 0 ?_
 refine w8 ?_
 cases b:(decide (a.2.1=s))
 have d:=aa b
 refine w7 ?_
 refine Qd<|fqB e ?_
 ·(cases a.2.2.1 <;> cases up <;> simp_all; done)
 have d:=ab b
 refine w3 ?_
 refine lgy rfl rfl (HS (Qa rfl) (Qa rfl) rfl JU) ?_
 refine w3 ?_
 refine Qd<|fqB e ?_
 ·(cases a.2.2.1 <;> cases up <;> simp_all; done)
theorem ZZ (l:List Int)(n:Int):FC Tryz.prog 228 [(false,[.dat Qz l]),(false,[dI n])] [] 0 (QY (lB (decide (n∈l)))):=by
 refine Qv Tryz.func228 rfl rfl Tryz.ntmps228 fun w o u q z s r=> ?_
 refine acI 1 fun _=> ?_
 refine w6 ?_
 refine alL 7 fun _=> ?_
 refine w4 ?_
 refine lpK l.length (fun k=>∀j,j < k→∀y,l[j]? =some y→¬y=n) (fun k=>⟨[(1,lI n),(7,lf (.dat Qz l)),(8,lI (l.length:Int)),(9,lI (k:Int))],[]⟩) ((fun j i=>absurd i (bg j))) ?_ fun k _ g=> ?_
 exact wo []
 refine w4 ?_
 cases b:(decide ((k:Int) < (l.length:Int)))
 have d:=aa b
 refine w6 ?_
 refine Qd<|fqB o ?_
 first | exact (aB fun t=>by obtain ⟨j,i⟩:=aN.1 t; exact g j (by have:=(ai.1 i).1; omega) n i rfl).symm
 have d:=ab b
 refine w5 ?_
 obtain ⟨v,h⟩:=gx l k
 refine w2 ?_
 refine alI 12 fun _=> ?_
 refine w7 ?_
 cases e:(decide (v=n))
 have f:=aa e
 refine w6 ?_
 refine Qb ?_
 refine lK_ ((Yw g h ‹_›)) ?_
 exact wo []
 have f:=ab e
 refine w4 ?_
 refine Qd<|fqB o ?_
 exact (aL (by have:=ah h; simp_all)).symm
theorem Vb (l:List Int)(n:Int)(I:l.length≤1000000000):FC Tryz.prog 389 [(false,[.ref 0]),(false,[dI n])] [ar 0 3 .int l] 0 (YB 3 .int (XH ltI n l)):=by
 refine Qv Tryz.func389 rfl rfl Tryz.ntmps389 fun G q F w H B A=> ?_
 refine acI 1 fun _=> ?_
 refine w8 ?_
 refine QP (fun u v=>∃(m:Int),u=((l.length:Int) - m).toNat∧(0≤m∧m≤(l.length:Int))∧(∀j:Nat,(j:Int) < m→∀y,l[j]? =some y→y < n)∧v=⟨[(0,lR 0),(1,lI n),(4,lf (.val (.slice none 0 0))),(5,lI m)],[ar 0 3 .int l]⟩) ⟨0,rfl,(by omega),(fun j C=>by omega),rfl⟩ ?_ ?_
 exact wo []
 rintro u v ⟨m,D,J,o,rfl⟩
 refine w7 ?_
 cases d:(decide (m < (l.length:Int)))
 have f:=aa d
 refine w16 ?_
 refine w2 ?_
 have r:(decide (m < (l.length:Int)))=false:=d
 try rw[r]
 refine w11 ?_
 refine lc (dBs 1 (e:= .int) Yk) ?_
 refine w2 ?_
 refine lc (Yh (e:= .int) (a:=0) (b:=(m).toNat) (l:=none) (h:=(some m)) (Qa rfl) rfl (by exact trivial) (by exact (Qa rfl)) Z6 Y6 rfl (by first | (simp only[ax,aw]; omega) | omega | (simp only[ax,aw,aj,ao,aA]; omega)) (by first | (simp only[ax,aw]; omega) | omega | (simp only[ax,aw,aj,ao,aA]; omega)) (by first | (simp only[ax,aw]; omega) | omega | (simp only[ax,aw,aj,ao,aA]; omega)) (by first | rfl | simp) (by first | rfl | simp))<|lc (Zj 2 (Qa rfl) rfl (Ua (e:= .int) (Qa rfl) rfl (by omega)) rfl Z6 XP (by first | omega | (simp only[aj,aF,ao,au,aH]; omega) | (simp only[aj,bh,ao,au,aH]; omega)) rfl (Fresh.of rfl) (nlr rfl)) ?_
 refine w5 ?_
 refine lc (dBs 3 (e:= .int) Yk) ?_
 refine lc (dA 4 XP) ?_
 refine w6 ?_
 refine lc (Yh (e:= .int) (a:=(m).toNat) (b:=l.length - (m).toNat) (l:=(some m)) (h:=none) (Qa rfl) rfl (by exact (Qa rfl)) (by exact trivial) Z6 Y6 rfl (by first | (simp only[ax,aw]; omega) | omega | (simp only[ax,aw,aj,ao,aA]; omega)) (by first | (simp only[ax,aw]; omega) | omega | (simp only[ax,aw,aj,ao,aA]; omega)) (by first | (simp only[ax,aw]; omega) | omega | (simp only[ax,aw,aj,ao,aA]; omega)) (by first | rfl | simp) (by first | rfl | simp))<|lc (Zj 5 (Qa rfl) rfl (Ua (e:= .int) (Qa rfl) rfl (by omega)) rfl Z6 XP (by first | omega | (simp only[aj,aF,ao,au,aH]; omega) | (simp only[aj,bh,ao,au,aH]; omega)) rfl (Fresh.of rfl) (nlr rfl)) ?_
 refine w2 ?_
 refine Qd<|fo_ q ?_
 exact QpE o (by omega) (by omega) (fun z t=>by simp_all)
 have f:=ab d
 refine w3 ?_
 obtain ⟨y,E⟩:=gx l ((m).toNat)
 refine w5 ?_
 cases g:(decide (y < n))
 have i:=aa g
 refine w10 ?_
 have s:(decide (m < (l.length:Int)))=true:=d
 try rw[s]
 refine w8 ?_
 refine cd_ (fun _ _=> ?_) fun _ _=> ?_
 refine w2 ?_
 refine lc (dBs 6 (e:= .int) Yk) ?_
 refine w2 ?_
 refine lc (Yh (e:= .int) (a:=0) (b:=(m).toNat) (l:=none) (h:=(some m)) (Qa rfl) rfl (by exact trivial) (by exact (Qa rfl)) Z6 Y6 rfl (by first | (simp only[ax,aw]; omega) | omega | (simp only[ax,aw,aj,ao,aA]; omega)) (by first | (simp only[ax,aw]; omega) | omega | (simp only[ax,aw,aj,ao,aA]; omega)) (by first | (simp only[ax,aw]; omega) | omega | (simp only[ax,aw,aj,ao,aA]; omega)) (by first | rfl | simp) (by first | rfl | simp))<|lc (Zj 7 (Qa rfl) rfl (Ua (e:= .int) (Qa rfl) rfl (by omega)) rfl Z6 XP (by first | omega | (simp only[aj,aF,ao,au,aH]; omega) | (simp only[aj,bh,ao,au,aH]; omega)) rfl (Fresh.of rfl) (nlr rfl)) ?_
 refine w5 ?_
 refine lc (dBs 8 (e:= .int) Yk) ?_
 refine lc (dA 9 XP) ?_
 refine w6 ?_
 refine lc (Yh (e:= .int) (a:=(m).toNat) (b:=l.length - (m).toNat) (l:=(some m)) (h:=none) (Qa rfl) rfl (by exact (Qa rfl)) (by exact trivial) Z6 Y6 rfl (by first | (simp only[ax,aw]; omega) | omega | (simp only[ax,aw,aj,ao,aA]; omega)) (by first | (simp only[ax,aw]; omega) | omega | (simp only[ax,aw,aj,ao,aA]; omega)) (by first | (simp only[ax,aw]; omega) | omega | (simp only[ax,aw,aj,ao,aA]; omega)) (by first | rfl | simp) (by first | rfl | simp))<|lc (Zj 10 (Qa rfl) rfl (Ua (e:= .int) (Qa rfl) rfl (by omega)) rfl Z6 XP (by first | omega | (simp only[aj,aF,ao,au,aH]; omega) | (simp only[aj,bh,ao,au,aH]; omega)) rfl (Fresh.of rfl) (nlr rfl)) ?_
 refine w2 ?_
 refine Qd<|fo_ q ?_
 exact QpE o (by omega) (by omega) (fun z t=>by simp_all)
 refine w4 ?_
 refine Qd<|fo_ q ?_
 exact Qws o (by simp_all)
 have i:=ab g
 refine w7 ?_
 refine Qb<|QW ⟨(m+1),rfl,(by omega),(fun j C z t=>by by_cases e:j=m.toNat <;> first | (subst e; simp_all; done) | exact o j (by omega) z t),rfl⟩ (by omega) ?_
 exact wo []
theorem Qf7 (l:List ByteArray)(o:l.length≤1000000000):FC Tryz.prog 390 [(false,[.dat Qo l])] [] 0 (YB 9 .str l):=by
 refine Qv Tryz.func390 rfl rfl Tryz.ntmps390 fun i g h b j f d=> ?_
 refine w4 ?_
 refine lc (dBs 0 (e:= .str) HQ) ?_
 refine w_ ?_
 refine lc (Zj 1 (Qa rfl) rfl (Evl.rep (Qa rfl)) rfl VJ QhM (by first | omega | (simp only[aj,aF,ao,au,aH]; omega) | (simp only[aj,bh,ao,au,aH]; omega)) rfl (Fresh.of rfl) (nlr rfl)) ?_
 refine w2 ?_
 refine Qd<|fo_ g ?_
 rfl
theorem Yx (c:Zi)(sig:Int)(r:sig < (c.1.length:Int)):FC Tryz.prog 411 [(true,[.dat Ql c.1, .dat Qo c.2.1, .dat Qw c.2.2]),(false,[dI sig])] [] 0 (QY (lB (Yu c sig))):=by
 refine Qv Tryz.func411 rfl rfl Tryz.ntmps411 fun o f j g q i h=> ?_
 refine acI 1 fun _=> ?_
 refine w_ ?_
 refine xbx 0 ?_
 refine w6 ?_
 cases b:(decide (0≤sig))
 have d:=aa b
 refine w10 ?_
 refine Qd<|fqB f ?_
 first | exact QeH ‹_›
 have d:=ab b
 refine w3 ?_
 obtain ⟨s,e⟩:=gx c.1 ((sig).toNat)
 refine w7 ?_
 refine Qd<|fqB f ?_
 exact Qbr ‹_› e
theorem JP (c:Zi)(w:c.1.length≤100000):FC Tryz.prog 178 [(true,[.dat Ql c.1, .dat Qo c.2.1, .dat Qw c.2.2])] [] 0 (YB 3 .int (Q6 c.1 c.1.length)):=by
 refine Qv Tryz.func178 rfl rfl Tryz.ntmps178 fun u r t j v q o=> ?_
 refine w_ ?_
 refine xbx 0 ?_
 refine w3 ?_
 refine lc (dBs 1 (e:= .int) Yk) ?_
 refine w6 ?_
 refine alL 8 fun _=> ?_
 refine w4 ?_
 refine lp0 c.1.length (fun k=>⟨[(2,lf (.val (.slice none 0 0))),(3,lR 2),(8,lf (.dat Ql c.1)),(9,lI (c.1.length:Int)),(10,lI (k:Int))],[ar 2 3 .int (Q6 c.1 k)]⟩) ?_ fun k _=> ?_
 exact wp [(2,1)] ⟨(Qe (rfl)),trivial⟩
 have s:=KY (ss:=c.1) (k:=k)
 refine w4 ?_
 cases d:(decide ((k:Int) < (c.1.length:Int)))
 have f:=aa d
 refine w7 ?_
 refine Qd<|fo_ r ?_
 (congr 1; omega)
 have f:=ab d
 refine w6 ?_
 obtain ⟨i,b⟩:=gx c.1 k
 refine w2 ?_
 refine lc (xal 3 QE VL) ?_
 refine w6 ?_
 refine alI 16 fun _=> ?_
 refine w2 ?_
 cases g:(!decide (i.2=1))
 have h:(i.2=1):=QK g
 refine w6 ?_
 refine Qb ?_
 refine l0_ ?_
 exact wp [] ⟨(Qe (by first | exact V5 b ‹_› | exact HH b ‹_›)),trivial⟩
 have h:¬(i.2=1):=QR g
 refine w4 ?_
 refine lc (dBs 4 (e:= .int) Yk) ?_
 refine lc (dA 5 XP) ?_
 refine w_ ?_
 refine Qb ?_
 refine w4 ?_
 refine Qb ?_
 refine l0_ ?_
 exact wp [(2,5)] ⟨(Qe (by first | exact V5 b ‹_› | exact HH b ‹_›)),trivial⟩
theorem Qb4 (c:Zi):FC Tryz.prog 558 [(true,[.dat Ql c.1, .dat Qo c.2.1, .dat Qw c.2.2])] [] 0 (QY (lf (dS (Ye c)))):=by
 refine Qv Tryz.func558 rfl rfl Tryz.ntmps558 fun z o w r A t s=> ?_
 refine w_ ?_
 refine xbx 0 ?_
 refine w4 ?_
 refine lc (dBs 1 (e:= .str) HQ) ?_
 refine w4 ?_
 refine lpK (([(⟨#[122,48]⟩:ByteArray),(⟨#[122,49]⟩:ByteArray)]).length) (fun k=>∀j,j < k→∀y,[(⟨#[122,48]⟩:ByteArray),⟨#[122,49]⟩][j]? =some y→¬Zq (fun x:QM=>decide (x.1=y)) c.1 < 0) (fun k=>⟨[(1,lP 0 0),(5,lR 1),(6,lI (([(⟨#[122,48]⟩:ByteArray),(⟨#[122,49]⟩:ByteArray)]).length:Int)),(7,lI (k:Int))],[bx 0 28 [.dat Ql c.1, .dat Qo c.2.1, .dat Qw c.2.2],ar 1 9 .str ([(⟨#[122,48]⟩:ByteArray),(⟨#[122,49]⟩:ByteArray)])]⟩) ((fun j u=>absurd u (bg j))) ?_ fun k _ b=> ?_
 exact wo []
 have v:(([(⟨#[122,48]⟩:ByteArray),(⟨#[122,49]⟩:ByteArray)]:List ByteArray).length)=2:=rfl
 refine w4 ?_
 cases d:(decide ((k:Int) < (([(⟨#[122,48]⟩:ByteArray),(⟨#[122,49]⟩:ByteArray)]).length:Int)))
 have f:=aa d
 refine w6 ?_
 refine Qd<|fqS o ?_
 first | exact Qlt b ‹_›
 have f:=ab d
 refine w6 ?_
 obtain ⟨q,i⟩:=gx ([(⟨#[122,48]⟩:ByteArray),(⟨#[122,49]⟩:ByteArray)]) k
 refine w7 ?_
 refine lc (dK (KA c.1 q) QfZ) ?_
 refine w2 ?_
 cases g:(decide ((Zq (fun x:QM=>decide (x.1=q)) c.1) < 0))
 have h:=aa g
 refine w6 ?_
 refine Qb ?_
 refine lK_ ((Yw b i ‹_›)) ?_
 exact wo []
 have h:=ab g
 refine w5 ?_
 refine Qd<|fqS o ?_
 exact Qlu b i ‹_›
theorem Qeh (c:Zi):FC Tryz.prog 406 [(true,[.dat Ql c.1, .dat Qo c.2.1, .dat Qw c.2.2])] [] 0 (QY (lf (dS (Ye c)))):=by
 refine Qv Tryz.func406 rfl rfl Tryz.ntmps406 fun z o w r A t s=> ?_
 refine w_ ?_
 refine xbx 0 ?_
 refine w4 ?_
 refine lc (dBs 1 (e:= .str) HQ) ?_
 refine w4 ?_
 refine lpK (([(⟨#[122,48]⟩:ByteArray),(⟨#[122,49]⟩:ByteArray)]).length) (fun k=>∀j,j < k→∀y,[(⟨#[122,48]⟩:ByteArray),⟨#[122,49]⟩][j]? =some y→¬Zq (fun x:QM=>decide (x.1=y)) c.1 < 0) (fun k=>⟨[(1,lP 0 0),(5,lR 1),(6,lI (([(⟨#[122,48]⟩:ByteArray),(⟨#[122,49]⟩:ByteArray)]).length:Int)),(7,lI (k:Int))],[bx 0 28 [.dat Ql c.1, .dat Qo c.2.1, .dat Qw c.2.2],ar 1 9 .str ([(⟨#[122,48]⟩:ByteArray),(⟨#[122,49]⟩:ByteArray)])]⟩) ((fun j u=>absurd u (bg j))) ?_ fun k _ b=> ?_
 exact wo []
 have v:(([(⟨#[122,48]⟩:ByteArray),(⟨#[122,49]⟩:ByteArray)]:List ByteArray).length)=2:=rfl
 refine w4 ?_
 cases d:(decide ((k:Int) < (([(⟨#[122,48]⟩:ByteArray),(⟨#[122,49]⟩:ByteArray)]).length:Int)))
 have f:=aa d
 refine w6 ?_
 refine Qd<|fqS o ?_
 first | exact Qlt b ‹_›
 have f:=ab d
 refine w6 ?_
 obtain ⟨q,i⟩:=gx ([(⟨#[122,48]⟩:ByteArray),(⟨#[122,49]⟩:ByteArray)]) k
 refine w7 ?_
 refine lc (dK (KH c.1 q) QfU) ?_
 refine w2 ?_
 cases g:(decide ((Zq (fun x:QM=>decide (x.1=q)) c.1) < 0))
 have h:=aa g
 refine w6 ?_
 refine Qb ?_
 refine lK_ ((Yw b i ‹_›)) ?_
 exact wo []
 have h:=ab g
 refine w5 ?_
 refine Qd<|fqS o ?_
 exact Qlu b i ‹_›
theorem KG (c:Zi)(x:JY):FC Tryz.prog 493 [(true,[.dat Ql c.1, .dat Qo c.2.1, .dat Qw c.2.2]),(true,[dI x.1,dB x.2])] [] 0 (QY (lB (decide (0≤x.1∧x.1≤(c.1.length:Int) - 1)))):=by
 refine Qv Tryz.func493 rfl rfl Tryz.ntmps493 fun h f g b i e d=> ?_
 refine acG 1 0 fun _=> ?_
 refine w_ ?_
 refine xbx 0 ?_
 refine xbx 1 ?_
 refine w7 ?_
 refine alL 8 fun _=> ?_
 refine w2 ?_
 refine lc (dK (XG x.1 0 ((c.1.length:Int) - 1)) WU) ?_
 refine w2 ?_
 refine Qd<|fqB f ?_
 rfl
theorem Qdf (c:Zi)(p:JY)(r:JY)[∀c,Decidable (SgOk c)]:FC Tryz.prog 402 [(true,[.dat Ql c.1, .dat Qo c.2.1, .dat Qw c.2.2]),(true,[dI p.1,dB p.2]),(true,[dI r.1,dB r.2])] [] 0 (QY (lB (decide (((SgOk c∧0≤p.1∧p.1≤(c.1.length:Int) - 1)∧(0≤r.1∧r.1≤(c.1.length:Int) - 1))∧¬p=r)))):=by
 refine Qv Tryz.func402 rfl rfl Tryz.ntmps402 fun v j u o w t s=> ?_
 refine acG 1 0 fun _=> ?_
 refine acG 2 0 fun _=> ?_
 refine w_ ?_
 refine xbx 0 ?_
 refine xbx 1 ?_
 refine xbx 2 ?_
 refine w4 ?_
 refine lc (dK (YR c) V4) ?_
 refine w_ ?_
 cases b:(decide (SgOk c))
 have d:=aa b
 refine w16 ?_
 refine Qd<|fqB j ?_
 exact (aB fun g=>absurd g.1.1.1 ‹_›).symm
 have d:=ab b
 refine w2 ?_
 refine lgy rfl rfl (dK (KG c p) QfT) ?_
 refine w2 ?_
 cases e:(decide (0≤p.1∧p.1≤(c.1.length:Int) - 1))
 have f:=aa e
 refine w11 ?_
 refine Qd<|fqB j ?_
 exact (aB fun g=>absurd g.1.1.2 ‹_›).symm
 have f:=ab e
 refine w2 ?_
 refine lgy rfl rfl (dK (KG c r) QfT) ?_
 refine w2 ?_
 cases h:(decide (0≤r.1∧r.1≤(c.1.length:Int) - 1))
 have i:=aa h
 refine w6 ?_
 refine Qd<|fqB j ?_
 exact (aB fun g=>absurd g.1.2 ‹_›).symm
 have i:=ab h
 refine w2 ?_
 refine lgy rfl rfl (QcL Qbc Qbb (Qk rfl) (Qk rfl) (p:=p) (q:=r) rfl rfl rfl) ?_
 refine w3 ?_
 refine Qd<|fqB j ?_
 exact Qp3 ‹_› ‹_› ‹_›
end Go.Proofs.YtndabgcpnmeeoaaGreat
