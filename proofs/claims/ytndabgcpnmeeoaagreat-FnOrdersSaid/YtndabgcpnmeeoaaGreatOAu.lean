/- Abstract states: parts of slices of one's own; copies; an own slice that is frozen. No program is named here. -/
import Derived.Test.YtndabgcpnmeeoaaGreatOAl
import Derived.Laws.CopyRow
import Derived.Test.YtndabgcpnmeeoaaGreatOAe
import Derived.DeepKeys3
set_option linter.unusedSimpArgs false
set_option linter.unusedVariables false
set_option linter.unusedSectionVars false
namespace Go.Proofs.YtndabgcpnmeeoaaGreat
open Go.RowKit
section
variable {A:Amb}{P:Program}{s:St}{x y:Operand}{d:Nat}{T T' ty:TypeId}{pos:String}{af:Array Edge}{g:Option (Nat×Bool)}
variable {E:TypeId}{e:Ty}{xs:List e.Den}{q lo n:Nat}
theorem SubR.all {h:Value}{w:World}{fp:List Nat}{k:Nat}(j:Own (.sl E e) w fp [h] xs):SubR h k 0 xs.length h:=by
 rcases j with ⟨_,a,i⟩ | ⟨b,c,f,fps,_,a,_⟩
 ·subst i
  simp only[aD,and_true] at a
  exact ⟨none,0,0,a,by rw[a]; rfl⟩
 ·simp only[aD,and_true] at a
  refine ⟨some ⟨b,0,none⟩,xs.length,c,a, ?_⟩
  rw[a]
  congr 1
  split
  ·rfl
  ·simp[Addr.add_lit]
theorem SubR.rep {h v:Value}{w:World}{fp:List Nat}(b:Own (.sl E e) w fp [h] xs)(f:SubR h e.wd lo n v)(hb:lo+n≤xs.length):Rep (.sl E e) w [v] ((xs.take (lo+n)).drop lo):=by
 obtain ⟨B,m,c,rfl,rfl⟩:=f
 have a:=b.rep
 obtain ⟨i,j,k,_⟩:=a
 have a:=b.rep
 simp only[aD,Value.slice.injEq,and_true] at k
 obtain ⟨rfl,rfl,rfl⟩:=k
 have:=a.part (lo:=lo) (hi:=lo+n) (by omega) hb
 rwa [bI] at this
theorem Zz {lo hi:Option Operand}{l h:Option Int}{t:Bool}(F:Evl A s x (.ref q))(o:s.tab.ent q=some (.arr E e xs))(k:opI A s lo l)(j:opI A s hi h){E':TypeId}(z:P.underlying T=some (.slice E'))(u:tsh P E'=some (t,e.wd))(C:Nat.blt d A.n=true)
 (h0:0≤l.getD 0) (h1:l.getD 0≤h.getD xs.length) (h2:h.getD xs.length≤xs.length) {a b:Nat} (ha:a=(l.getD 0).toNat) (hb:b=(h.getD xs.length).toNat - (l.getD 0).toNat):Does A P ⟨some d, .slice T x lo hi none,ty,pos,af,g⟩ s (s.put d (lf (.sub q e.wd a b))):=
 Qi rfl C fun i m w r=>by
  subst ha hb
  have D:m.eval x=i.h q:=F i m w r ⟨_,o⟩
  have v:Own (.sl E e) w (i.f q) [i.h q] xs:=r.cx.en q _ o
  obtain ⟨B,c,p,G,H⟩:=v.rep.slv
  refine ⟨_, ?_,_,rfl,fun _=>⟨B,xs.length,c,p,rfl⟩⟩
  simp only[execOp,D,p,k.ev r,j.ev r,dC,Instr.sliceAt,Instr.slice,ay,run_underlying z,aI,VA h0 h1 h2 G,Xr u]
  simp
theorem YS (h:Evl A s x (.sub q e.wd lo n))(c:s.tab.ent q=some (.arr E e xs))(hb:lo+n≤xs.length):Qej A s x (.sl E e) ((xs.take (lo+n)).drop lo):=fun b a w r=>by
 have i:Own (.sl E e) w (b.f q) [b.h q] xs:=r.cx.en q _ c
 exact (h b a w r ⟨_,c⟩).rep i hb
theorem Qi2 {i:TypeId}(t:Evl A s x (.sub q e.wd lo n))(j:s.tab.ent q=some (.arr E e xs))(hb:lo+n≤xs.length)(o:P.underlying i=some (.slice E))(p:Nat.blt d A.n=true):
 Does A P ⟨some d, .call ⟨.builtin .len, #[x], #[i]⟩,ty,pos,af,g⟩ s (s.put d (lf (dI n))):=
 Qi rfl p fun b a w r=>by
  have l:Own (.sl E e) w (b.f q) [b.h q] xs:=r.cx.en q _ j
  obtain ⟨B,m,c,C,k⟩:=t b a w r ⟨_,j⟩
  obtain ⟨v,z,D,F,u⟩:=l.rep.slv
  refine ⟨.int .i64 n, ?_,_,rfl,Yj (by unfold maxLen at u; omega)⟩
  simp only[execOp,resolve,invoke,builtin]
  simp[ay,k,Builtin.len_,run_underlying o,goInt,Result.andThen]
theorem US {i:Int}{E':TypeId}{u:Bool}(I:Evl A s x (.sub q e.wd lo n))(t:s.tab.ent q=some (.arr E e xs))(hb:lo+n≤xs.length)(J:Evl A s y (dI i))(F:P.underlying T=some (.slice E'))(C:tsh P E'=some (u,e.wd))(H:Nat.blt d A.n=true)
 (h0:0≤i) (h1:i < n) {k:Nat} (hk:k=lo+i.toNat):Does A P ⟨some d, .indexAddr T x y,ty,pos,af,g⟩ s (s.put d (lf (.ept q e.wd k 0))):=
 Qi rfl H fun l a w r=>by
  subst hk
  have G:=J.i r
  have D:Own (.sl E e) w (l.f q) [l.h q] xs:=r.cx.en q _ t
  obtain ⟨B,m,c,p,o⟩:=I l a w r ⟨_,t⟩
  rcases D with ⟨_,_,h⟩ | ⟨b,v,z,fps,K,j,L,M,N,O,Q⟩
  ·subst h; simp at hb; omega
  ·simp only[aD,and_true] at j
   rw[p] at j
   simp only[Value.slice.injEq] at j
   obtain ⟨rfl,rfl,rfl⟩:=j
   rw[if_neg (by omega)] at o
   simp only[dl,Addr.add_lit] at o
   refine ⟨.pointer (some ⟨b,(0+lo*e.wd)+i.toNat*e.wd,none⟩), ?_,_,rfl,fun _=>⟨b,xs.length,c,p,by rw[bT]; simp⟩⟩
   simp only[execOp,o,G,ay,Vp F C h0 h1]
   simp
def cpy {α:Type}(xs:List α)(lo n:Nat)(ys:List α):List α:=xs.take lo++ys.take (min ys.length n)++xs.drop (lo+min ys.length n)
theorem QhT {α:Type}{xs:List α}{lo n:Nat}{ys:List α}(h:lo+n≤xs.length):(cpy xs lo n ys).length=xs.length:=by
 simp[cpy]; omega
theorem Qc5 {α:Type}{l:List α}{len lo:Nat}{cs:List α}(h:lo+cs.length≤len)(b:len≤l.length):(l.take lo++cs++l.drop (lo+cs.length)).take len=(l.take len).take lo++cs++(l.take len).drop (lo+cs.length):=by
 have a:(l.take lo++cs).length=lo+cs.length:=by simp; omega
 rw[List.take_append,aJ (by omega),a,eb,cu (by omega),List.drop_take]
theorem OwnL.fp0 {w:World}(a:e.flat=true):∀{xs:List e.Den} {fp:List Nat} {cs:List Value},OwnL (Own e w) fp cs xs→fp=[]
 | [],_,_,h=>h.1
 | _ :: _,_,_,⟨f1,f2,c1,c2,h1,h2,h3,h4⟩=>by rw[h1,UJ a h3,OwnL.fp0 a h4]; rfl
theorem OwnL.takeN {w:World}(i:e.wd=1)(b:e.flat=true):∀{xs:List e.Den} {fp:List Nat} {cs:List Value} (k:Nat),OwnL (Own e w) fp cs xs→OwnL (Own e w) [] (cs.take k) (xs.take k)
 | [],_,_,k,h=>by rw[h.2]; simp[OwnL]
 | x :: xs,_,_,0,_=>by simp[OwnL]
 | x :: xs,_,_,k+1,⟨f1,f2,c1,c2,h1,h2,h3,h4⟩=>by
  have f:=h3.len
  rw[i] at f
  have a:=UJ b h3
  subst a
  match c1,f with
  | [c],_=>
   rw[h2]
   exact ⟨[],[],[c],c2.take k,rfl,rfl,h3,OwnL.takeN i b k h4⟩
theorem OwnL.dropN {w:World}(f:e.wd=1)(a:e.flat=true):∀{xs:List e.Den} {fp:List Nat} {cs:List Value} (k:Nat),OwnL (Own e w) fp cs xs→OwnL (Own e w) [] (cs.drop k) (xs.drop k)
 | [],_,_,k,h=>by rw[h.2]; simp[OwnL]
 | x :: xs,_,_,0,h=>by have:=h.fp0 a; subst this; exact h
 | x :: xs,_,_,k+1,⟨f1,f2,c1,c2,h1,h2,h3,h4⟩=>by
  have b:=h3.len
  rw[f] at b
  match c1,b with
  | [c],_=>
   rw[h2]
   exact OwnL.dropN f a k h4
theorem Qgm {w:World}{dT sT ty c:TypeId}{b o dLen dCap:Nat}{a:Addr}{sLen sCap:Nat}{cur:Array Value}{cs:List Value}(p:P.underlying dT=some (.slice c))(k:(P.info? c).map (·.size)=some 1)
 (hg:w.heap[b]? =some (.cells cur E (0,0))) (hn:cs.length=Nat.min sLen dLen) (hsrc:∀j v,cs[j]? =some v→w.cell? (a.add j)=some v) (hfit:o+cs.length≤cur.size) (h1:∀v∈cs,v.oneCell'=true):
 (Builtin.copy_ #[dT,sT] ty #[.slice (some ⟨b,o,none⟩) dLen dCap, .slice (some a) sLen sCap]).run P w= .ok (goInt cs.length) (WI w b o cs):=by
 have m:=run_loadCells_list (P:=P) w a cs hsrc
 have h:=Ur (P:=P) (b:=b) (E:=E) cs o 0 w cur hg (by omega) h1
 cases f:P.info? c with
 | none=>simp[f] at k
 | some i=>
  have l:i.size=1:=by simpa [f] using k
  simp[Builtin.copy_,run_underlying p,Builtin.lenOf,Builtin.firstCells,sizeOf,typeInfo,f,l,← hn,m,h]
def QqI (A:Amb)(s:St)(x:Operand)(q wd lo n:Nat):Prop:=∀gh a w,Rg A s gh a w→SubR (gh.h q) wd lo n (a.eval x)
theorem Qqt (h:Evl A s x (.sub q e.wd lo n))(c:s.tab.ent q=some (.arr E e xs)):QqI A s x q e.wd lo n:=fun b a w r=>h b a w r ⟨_,c⟩
theorem Qqs (h:Evl A s x (.ref q))(c:s.tab.ent q=some (.arr E e xs)):QqI A s x q e.wd 0 xs.length:=fun b a w r=>by
 have i:Own (.sl E e) w (b.f q) [b.h q] xs:=r.cx.en q _ c
 rw[show a.eval x=b.h q from h b a w r ⟨_,c⟩]
 exact SubR.all i
theorem Qd8 {J N p:TypeId}{z:Value}{F:Nat}{ys:List e.Den}(hx:QqI A s x q e.wd lo n)(he:s.tab.ent q=some (.arr E e xs))(hb:lo+n≤xs.length)(hy:Qej A s y (.sl E e) ys)(I:e.wd=1)(R:e.flat=true)
 (hu:P.underlying J=some (.slice p)) (hi:(P.info? p).map (fun i=>(i.zero,i.size,i.bytes))=some (some z,1,F)) (hn:Nat.blt d A.n=true):
 Does A P ⟨some d, .call ⟨.builtin .copy, #[x,y], #[J,N]⟩,ty,pos,af,g⟩ s ⟨(d,lf (dI (min ys.length n:Nat))) :: s.tm,(q,some (.arr E e (cpy xs lo n ys))) :: s.tab⟩:=fun a w K Q r hK=>by
 obtain ⟨L,r⟩:=r
 have hs:(P.info? p).map (·.size)=some 1:=by
  cases hq:P.info? p with
  | none=>rw[hq] at hi; simp at hi
  | some i=>rw[hq] at hi; simp at hi; simp[hi.2.1]
 have hO:Own (.sl E e) w (L.f q) [L.h q] xs:=r.cx.en q _ he
 have a0:=hO
 obtain ⟨B,m,c,q1,Z⟩:=hx L a w r
 have hr:=hy L a w r
 obtain ⟨A',c2,H,h3,h4⟩:=hr.slv
 obtain ⟨B0,c0,z1,z2,z3⟩:=hO.rep.slv
 have a7:(min ys.length n:Nat)≤9223372036854775807:=by unfold maxLen at z3; omega
 by_cases hz:min ys.length n=0
 ·have hc:cpy xs lo n ys=xs:=by simp[cpy,hz]
  have e0:(execOp a.eval ⟨some d, .call ⟨.builtin .copy, #[x,y], #[J,N]⟩,ty,pos,af,g⟩).run P w= .ok (.value (goInt ((min ys.length n:Nat):Int))) w:=by
   have V:=run_copy_none (P:=P) w J N ty p (if c=lo then B else B.map (·.add (lo*e.wd))) A' n (c - lo) ys.length c2 hu hs hz
   rw[hz]
   simp only[execOp,resolve,invoke,builtin,Z,H,ay,bl,aI,dQ,aU,dL,V]
   rfl
  unfold Oper.wp
  rw[e0,Oper.upon_value]
  refine hK _ _ ⟨L,Rg.put (s:=⟨s.tm,(q,some (.arr E e (cpy xs lo n ys))) :: s.tab⟩) (r.mod he (QV w) (fun _ _ _=>rfl) ?_) (aA hn) (pv:=lf (dI (min ys.length n:Nat))) ⟨_,rfl,Yj (n:=((min ys.length n:Nat):Int)) (by omega)⟩⟩
  rw[hc]
  exact a0
 ·rcases hO with ⟨_,_,h⟩ | ⟨b,a5,u,fps,p2,X,p4,p5,p6,p7,Y⟩
  ·subst h; simp at hb; omega
  have a2:=Y.fp0 R
  subst a2
  simp only[aD,and_true] at X
  rw[q1] at X
  simp only[Value.slice.injEq] at X
  obtain ⟨rfl,rfl,rfl⟩:=X
  rw[if_neg (by omega)] at Z
  simp only[dl,Addr.add_lit,I,cr,cd] at Z
  rw[H] at hr
  obtain ⟨_,S⟩:=hr.src (M:=0) R
  rcases S with ⟨_,h0⟩ | ⟨ad,k,rfl,⟨fp,n1,_,_⟩,n4⟩
  ·omega
  have a4:=n1.len
  rw[I,cr] at a4
  have n5:=n1.takeN I R (min ys.length n)
  have t:(k.take (min ys.length n)).length=min ys.length n:=by rw[ao]; omega
  have a6:u.size=c:=by rw[p7,I,cr]
  have V:=Qgm (P:=P) (w:=w) (dT:=J) (sT:=N) (ty:=ty) (o:=lo) (dCap:=c - lo) (sCap:=c2) (sLen:=ys.length) (dLen:=n) (a:=ad) (cs:=k.take (min ys.length n)) hu hs p4 t
   (fun j v W=>n4 j v (by rw[bw] at W; split at W; exact W; cases W)) (by rw[t]; omega) (OwnL.one (fp:=[]) n5)
  have e0:(execOp a.eval ⟨some d, .call ⟨.builtin .copy, #[x,y], #[J,N]⟩,ty,pos,af,g⟩).run P w= .ok (.value (goInt ((min ys.length n:Nat):Int))) (WI w b lo (k.take (min ys.length n))):=by
   rw[t] at V
   simp only[execOp,resolve,invoke,builtin,Z,H,ay,bl,aI,dQ,aU,dL,V]
  unfold Oper.wp
  rw[e0,Oper.upon_value]
  obtain ⟨D,m1,m2,m3⟩:=Uo b E (0,0) (k.take (min ys.length n)) w lo u p4 (by rw[t]; omega)
  refine hK _ _ ⟨L,Rg.put (s:=⟨s.tm,(q,some (.arr E e (cpy xs lo n ys))) :: s.tab⟩) (r.mod he (Ky w b lo _) (fun g0 _ a3=>YW w b lo _ g0 fun h=>a3 (by rw[p2,h]; simp)) ?_) (aA hn) (pv:=lf (dI (min ys.length n:Nat))) ⟨_,rfl,Yj (n:=((min ys.length n:Nat):Int)) (by omega)⟩⟩
  have O:=QhT (ys:=ys) hb
  refine .inr ⟨b,c,D,[],p2,by rw[q1,O],m1,by omega,p6,by rw[m2]; exact p7, ?_⟩
  rw[I,cr] at Y ⊢
  rw[O]
  have G:D.toList.take xs.length=(u.toList.take xs.length).take lo++k.take (min ys.length n)++(u.toList.take xs.length).drop (lo+min ys.length n):=by
   have h9:=Qc5 (l:=u.toList) (len:=xs.length) (lo:=lo) (cs:=k.take (min ys.length n)) (by rw[t]; omega) (by simp; omega)
   rw[m3,h9,t]
  rw[G]
  have C:∀{U:List Value} {zs:List e.Den},OwnL (Own e w) [] U zs→OwnL (Own e (WI w b lo (k.take (min ys.length n)))) [] U zs:=fun h=>h.mono fun f c x a1 ho=>ho.keep fun g hg=>absurd (a1 g hg) (by simp)
  exact ((C (Y.takeN I R lo)).append (C n5)).append (C (Y.dropN I R (lo+min ys.length n)))
theorem QkN (i:Nat)(hi:lk s.tm i=some (lf (.ref q)))(p:s.tab.ent q=some (.arr E e xs)):Wk A s ⟨(i,lf (.dat (.sl E e) xs)) :: s.tm,(q,none) :: s.tab⟩:=fun a w r=>by
 obtain ⟨m,r⟩:=r
 obtain ⟨v,H,l,z,I⟩:=r.tm i _ hi
 simp only[aD,and_true] at z
 subst z
 have J:v=m.h q:=I ⟨_,p⟩
 have B:Own (.sl E e) w (m.f q) [m.h q] xs:=r.cx.en q _ p
 have c:∀b,Tab.al ((q,none) :: s.tab) b→b≠q∧s.tab.al b:=fun b ⟨t,h⟩=>by
  rw[Qd] at h
  by_cases o:b=q
  ·rw[if_pos o] at h; cases h
  ·rw[if_neg o] at h; exact ⟨o,t,h⟩
 have O:=r.step (T:=(q,none) :: s.tab) (gh':=⟨m.h,m.f,fun g=>m.N g∨g∈m.f q⟩) (w':=w) ⟨fun b t h=> ?_,fun D F K L u=>r.cx.dj D F (c D K).2 (c F L).2 u,fun b h=>r.cx.nd b (c b h).2,fun b h g k j=> ?_,fun g j=> ?_⟩
  (fun b h=> .inl ⟨(c b h).2,rfl,fun _=>rfl⟩) (fun g k=>⟨.inl k,rfl⟩) (QV w) (fun _ _ _=>rfl) (fun g j=> ?_) (fun b h g k=> .inr ⟨b,(c b h).2,k⟩)
 ·exact ⟨_,O.know H (pv:=lf (.dat (.sl E e) xs)) ⟨_,rfl,by rw[J]; exact B.rd fun g k=> .inr k⟩⟩
 ·rw[Qd] at h
  by_cases o:b=q
  ·rw[if_pos o] at h; cases h
  ·rw[if_neg o] at h
   exact (r.cx.en b t h).mono (fun M _ G=>⟨(c M G).2,rfl⟩) (fun g k=>⟨.inl k,rfl⟩) rfl rfl fun _ _=>rfl
 ·rcases j with j | j
  ·exact r.cx.no b (c b h).2 g k j
  ·exact r.cx.dj b q (c b h).2 ⟨_,p⟩ (c b h).1 g k j
 ·rcases j with j | j
  ·exact r.cx.nl g j
  ·exact Own.lt B g j
 ·rcases j with j | j
  ·exact .inl j
  ·exact .inr (.inr ⟨q,⟨_,p⟩,j,fun C=>r.xn g C (r.ox q ⟨_,p⟩ g j C)⟩)
end
end Go.Proofs.YtndabgcpnmeeoaaGreat
namespace Go.Proofs.YtndabgcpnmeeoaaGreat
open Go.RowKit
section
variable {A:Amb}{P:Program}{s:St}{x y z:Operand}{d:Nat}{T T' ty:TypeId}{pos:String}{af:Array Edge}{g:Option (Nat×Bool)}
def QyX (P:Program)(T:TypeId)(offs:List (Nat×Nat))(zs:List Value):Prop:=
 ∃fs,P.underlying T=some (.struct fs)∧(∀w,(fs.mapM fun (f:Field)=>do pure (f.offset,← sizeOf f.type)).run P w= .ok offs.toArray w)∧zer P T=some (.agg zs.toArray)
theorem QoG (al:Nat→Prop)(gh:Gh)(w:World):∀zs:List Value,LVs al gh w (zs.map LV.val) zs
 | []=>rfl
 | z :: zs=>⟨z,zs,rfl,rfl,QoG al gh w zs⟩
theorem Qvb {zs:List Value}{offs:List (Nat×Nat)}{f:Array (Nat×Operand)}{j:List (Bool×List LV)}{ls:List LV}(hb:QyX P T offs zs)(hv:EvL A s (f.toList.map (·.2)) j)(o:∀c∈j,QW s.tab c.2=true)
 (hf:QgT offs (zs.map LV.val) ((f.toList.map (·.1)).zip (j.map (·.2)))=some ls) (hn:Nat.blt d A.n=true):Does A P ⟨some d, .build T f,ty,pos,af,g⟩ s (s.put d (ag ls)):=
 Qi rfl hn fun D a w r=>by
  obtain ⟨fs,S,U,I⟩:=hb
  have F:=hv.cms r
  have Q:=F.len
  generalize O:(f.toList.map (·.2)).map a.eval=t at*
  have a0:f.toList.length=t.length:=by rw[← O]; simp
  have m:∀(C:List (Bool×List LV)) (t:List Value),CmsR s.tab.al D w C t→(∀c∈C,QW s.tab c.2=true)→∀(i:Nat) (c:Bool×List LV) (v:Value),C[i]? =some c→t[i]? =some v→∃R,v.cells=R.toArray∧LVs s.tab.al D w c.2 R:=by
   intro C
   induction C with
   | nil=>intro t _ _ i c v h; simp at h
   | cons c C K=>
    rintro t ⟨v,M,rfl,G,L⟩ o i H v' B k
    cases i with
    | zero=>
     simp at B k
     subst B; subst k
     have B:=o c (aw ..)
     obtain ⟨b,ls⟩:=c
     exact CmR.cells G fun hb=>by
      subst hb
      obtain ⟨l,rfl,q1⟩:=G
      simp only[QW,dt] at B
      obtain ⟨I,V⟩:=VO B
      exact q1.oneCell V I fun q ⟨e,Y⟩=>(r.cx.en q e Y).oneCell
    | succ i=>exact K M L (fun c B=>o c (ax _ B)) i H v' (by simpa using B) (by simpa using k)
  have J:((f.toList.map (·.1)).zip (j.map (·.2))).length=t.length:=by rw[List.length_zip,aB,aB]; omega
  obtain ⟨u,G,L⟩:=Qbu (al:=s.tab.al) (gh:=D) (w:=w) (cur:=zs.toArray) hf J.symm (fun i p v hp k=>by
   have Z:=List.getElem?_zip_eq_some.1 hp
   have N:=Z.2
   rw[bo] at N
   obtain ⟨H,W,X⟩:=bP.1 N
   rw[← X]
   exact m j t F o i H v W k) (by simpa using QoG s.tab.al D w zs)
  refine ⟨.agg u, ?_,u.toList,by simp,L⟩
  have hz:(((f.toList.map (·.1)).zip (j.map (·.2))).map (·.1)).zip t=(f.map fun p=>(p.1,a.eval p.2)).toList:=by
   rw[List.map_fst_zip (by rw[aB,aB]; omega),dy,← O,cX]
   generalize f.toList=pl
   induction pl with
   | nil=>rfl
   | cons p ps K=>simp[K]
  rw[hz] at G
  simp only[execOp,Instr.build,ay,Vq I,aI,run_underlying S,U,Value.cells]
  rw[G]
  simp
end
theorem Res.zero {A:Amb}{P:Program}{s:St}{fn:Func}(b:fn.results= #[]):Res A P fn s (.tup []):=fun c a w g=>by
 refine ⟨.tuple #[], ?_,[],rfl,rfl⟩
 rw[Up,b]; simp[Vg,dY]
section
variable {A:Amb}{P:Program}{s:St}{x y z:Operand}{d:Nat}{T T' ty:TypeId}{pos:String}{af:Array Edge}{g:Option (Nat×Bool)}
variable {E:TypeId}{e:Ty}{xs:List e.Den}{q lo n:Nat}
theorem OwnL.takeW {w:World}(b:e.flat=true):∀{xs:List e.Den} {fp:List Nat} {cs:List Value} (k:Nat),OwnL (Own e w) fp cs xs→OwnL (Own e w) [] (cs.take (k*e.wd)) (xs.take k)
 | [],_,_,k,h=>by rw[h.2]; simp[OwnL]
 | x :: xs,_,_,0,_=>by simp[OwnL]
 | x :: xs,_,_,k+1,⟨f1,f2,c1,c2,h1,h2,h3,h4⟩=>by
  have c:=h3.len
  have a:=UJ b h3
  subst a
  rw[h2]
  refine ⟨[],[],c1,c2.take (k*e.wd),rfl, ?_,h3,OwnL.takeW b k h4⟩
  rw[Nat.succ_mul,Nat.add_comm,← c,List.take_length_add_append]
theorem QkO (t i:Nat)(hi:lk s.tm i=some (lf (.sub q e.wd 0 n)))(j:s.tab.ent q=some (.arr E e xs))(K:n≤xs.length)(J:e.flat=true)(F:Fresh s t)(G:A.k0≤t):
 Wk A s ⟨(i,lf (.ref t)) :: s.tm,(t,some (.arr E e (xs.take n))) :: (q,none) :: s.tab⟩:=fun a w r=>by
 obtain ⟨u,r⟩:=r
 obtain ⟨v,Q,l,I,R⟩:=r.tm i _ hi
 simp only[aD,and_true] at I
 subst I
 obtain ⟨B,m,c,N,q2⟩:=R ⟨_,j⟩
 have S:Own (.sl E e) w (u.f q) [u.h q] xs:=r.cx.en q _ j
 have L:v= .slice B n c:=by
  rw[q2]
  congr 1
  split
  ·rfl
  ·cases B with
   | none=>rfl
   | some b=>cases b; simp[Addr.add]
 have C:Own (.sl E e) w (u.f q) [v] (xs.take n):=by
  rcases S with ⟨V,k,W⟩ | ⟨b,O,p,fps,X,o,Y,p5,Z,p7,M⟩
  ·subst W
   simp only[aD,and_true] at k
   rw[N] at k
   simp only[Value.slice.injEq] at k
   obtain ⟨rfl,rfl,rfl⟩:=k
   have:n=0:=by simpa using K
   subst this
   exact .inl ⟨V,by rw[L],by simp⟩
  ·have D:=M.fp0 J
   subst D
   simp only[aD,and_true] at o
   rw[N] at o
   simp only[Value.slice.injEq] at o
   obtain ⟨rfl,rfl,rfl⟩:=o
   have H:(xs.take n).length=n:=by rw[ao]; omega
   refine .inr ⟨b,c,p,[],X,by rw[L,H],Y,by rw[H]; omega,Z,p7, ?_⟩
   rw[H]
   have:=M.takeW J n
   rwa [eb,cu (cA _ K)] at this
 have r2:=r.make t F G [q] (fun q' h=>by rw[aC.1 h]; exact ⟨_,j⟩) (QV w) (fun _ _ _=>rfl) C (r.cx.nd q ⟨_,j⟩) (fun g U=> .inr ⟨q,aC.2 rfl,U⟩)
 exact ⟨_,r2.know Q (pv:=lf (.ref t)) ⟨_,rfl,fun _=>by simp⟩⟩
theorem Qf5 (z:Array Value)(n:Nat):Builtin.zeroCells z n=madeCells z (n*z.size):=rfl
theorem QiY {G E':TypeId}{N:Value}(hx:Evl A s x (.sub q e.wd lo n))(H:s.tab.ent q=some (.arr E e xs))(hb:lo+n=xs.length)(hT:P.underlying G=some (.slice E'))(hz:zer P E'=some N)(Y:N.cells.toList=e.zeros)(Z:e.zeros.all (·.oneCell')=true)(hf:e.flat=true):
 Does A P ⟨none, .call ⟨.builtin .clear, #[x], #[G]⟩,ty,pos,af,g⟩ s ⟨s.tm,(q,some (.arr E e (xs.take lo++List.replicate n e.zero))) :: s.tab⟩:=fun a w K Q r hK=>by
 obtain ⟨t,r⟩:=r
 have hO:Own (.sl E e) w (t.f q) [t.h q] xs:=r.cx.en q _ H
 have S:=hO
 obtain ⟨B,m,c,q1,M⟩:=hx t a w r ⟨_,H⟩
 have D:e.zeros.length=e.wd:=(ZL e w).len
 have a0:N.cells=e.zeros.toArray:=by rw[← Y]
 rcases Nat.eq_zero_or_pos n with u | u
 ·subst u
  have X:xs.take lo++List.replicate 0 e.zero=xs:=by rw[aJ (by omega)]; simp
  have R:(execOp a.eval ⟨none, .call ⟨.builtin .clear, #[x], #[G]⟩,ty,pos,af,g⟩).run P w= .ok (.value (.tuple #[])) w:=by
   simp only[execOp,resolve,invoke,builtin,M,ay,bl,aI,dQ,aU,dL]
   generalize (if c=lo then B else B.map (·.add (lo*e.wd)))=BB
   cases BB <;> simp[Builtin.clear_,run_underlying hT]
  unfold Oper.wp
  rw[R,Oper.upon_value]
  refine hK _ _ ⟨t,r.mod H (QV w) (fun _ _ _=>rfl) ?_⟩
  rw[X]
  exact S
 ·rcases hO with ⟨_,_,h⟩ | ⟨b,a2,i,fps,p2,L,p4,p5,p6,p7,p8⟩
  ·subst h; simp at hb; omega
  have V:=p8.fp0 hf
  subst V
  simp only[aD,and_true] at L
  rw[q1] at L
  simp only[Value.slice.injEq] at L
  obtain ⟨rfl,rfl,rfl⟩:=L
  rw[if_neg (by omega)] at M
  simp only[dl,Addr.add_lit,cd] at M
  have a1:(Builtin.zeroCells N.cells n).toList=(List.replicate n e.zeros).flatten:=by
   have h2:=Qc2 e.zeros n (by rw[D]; exact VV e)
   rw[Qf5,a0,List.size_toArray,h2]
  have j:((List.replicate n e.zeros).flatten).length=n*e.wd:=by simp[D]
  have a4:=cA e.wd p5
  have a3:lo*e.wd+n*e.wd=xs.length*e.wd:=by rw[← hb,bT]
  have C:=Ur (P:=P) (b:=b) (E:=E) ((List.replicate n e.zeros).flatten) (lo*e.wd) 0 w i p4 (by rw[j,p7]; omega) (fun v J=>by
   obtain ⟨l,I,J⟩:=List.mem_flatten.1 J
   rw[cW I] at J
   exact av.1 Z v J)
  rw[ea] at C
  have R:(execOp a.eval ⟨none, .call ⟨.builtin .clear, #[x], #[G]⟩,ty,pos,af,g⟩).run P w= .ok (.value (.tuple #[])) (WI w b (lo*e.wd) ((List.replicate n e.zeros).flatten)):=by
   obtain ⟨n,rfl⟩:∃k,n=k+1:=⟨n - 1,by omega⟩
   simp only[execOp,resolve,invoke,builtin,M,ay,bl,aI,dQ,aU,dL]
   simp[Builtin.clear_,run_underlying hT,Vq hz,a1,C]
  unfold Oper.wp
  rw[R,Oper.upon_value]
  obtain ⟨o,m1,m2,m3⟩:=Uo b E (0,0) ((List.replicate n e.zeros).flatten) w (lo*e.wd) i p4 (by rw[j,p7]; omega)
  refine hK _ _ ⟨t,r.mod H (Ky w b _ _) (fun g0 _ W=>YW w b _ _ g0 fun h=>W (by rw[p2,h]; simp)) ?_⟩
  have I:(xs.take lo++List.replicate n e.zero).length=xs.length:=by simp; omega
  refine .inr ⟨b,c,o,[],p2,by rw[q1,I],m1,by omega,p6,by rw[m2]; exact p7, ?_⟩
  rw[I]
  have p:o.toList.take (xs.length*e.wd)=(i.toList.take (xs.length*e.wd)).take (lo*e.wd)++(List.replicate n e.zeros).flatten:=by
   have h9:=Qc5 (l:=i.toList) (len:=xs.length*e.wd) (lo:=lo*e.wd) (cs:=(List.replicate n e.zeros).flatten) (by rw[j]; omega) (by simp; omega)
   rw[m3,h9,j,bz (by simp; omega),bG]
  rw[p]
  have F:∀{O:List Value} {zs:List e.Den},OwnL (Own e w) [] O zs→OwnL (Own e (WI w b (lo*e.wd) ((List.replicate n e.zeros).flatten))) [] O zs:=fun h=>h.mono fun f c x U ho=>ho.keep fun g hg=>absurd (U g hg) (by simp)
  exact (F (p8.takeW hf lo)).append (OwnL.zeros e _ n)
end
end Go.Proofs.YtndabgcpnmeeoaaGreat
