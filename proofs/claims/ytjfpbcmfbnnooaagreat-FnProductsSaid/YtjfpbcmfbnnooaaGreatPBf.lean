import Derived.Test.YtjfpbcmfbnnooaaGreatPFz
set_option linter.all false
namespace Go.Proofs.YtjfpbcmfbnnooaaGreat
open Go.RowKit Tryz
def ZL (N:Nat→Prop)(w:World)(e:Ty):List Value→List e.Den→Prop
 | cs,[]=>cs=[]
 | cs,x::xs=>∃c1 c2,cs=c1++c2∧Rd N e w c1 x∧ZL N w e c2 xs
section
variable {N N':Nat→Prop}{w w':World}{e:Ty}
def ZL.len:∀{xs:List e.Den} {cs:List Value},ZL N w e cs xs→cs.length=xs.length*e.wd
 | [],_,h=>by rw[show _=[] from h];simp
 | _::xs,_,⟨_,_,h2,h3,h4⟩=>by rw[h2,ai,h3.rep.len,h4.len,av,cw,dq,Nat.add_comm]
def ZL.mono:∀{xs:List e.Den} {cs:List Value},ZL N w e cs xs→(∀g,N g→N' g∧w'.heap[g]? =w.heap[g]?)→ZL N' w' e cs xs
 | [],_,h,_=>h
 | _::_,_,⟨c1,c2,h2,h3,h4⟩,k=>⟨c1,c2,h2,h3.mono k,h4.mono k⟩
def ZL.app:∀{xs ys:List e.Den} {c1 c2:List Value},ZL N w e c1 xs→ZL N w e c2 ys→ZL N w e (c1++c2) (xs++ys)
 | [],_,_,_,h,k=>by rw[show _=[] from h];exact k
 | _::_,_,_,_,⟨a,b,h1,h2,h3⟩,k=>⟨a,b++_,by rw[h1,aM],h2,h3.app k⟩
def ZL.one:∀{xs:List e.Den} {cs:List Value},ZL N w e cs xs→∀u∈cs,u.oneCell'=true
 | [],_,h,u,hu=>by rw[show _=[] from h] at hu;cases hu
 | _::_,_,⟨_,_,h2,h3,h4⟩,u,hu=>by
  rw[h2] at hu
  exact (aO.1 hu).elim (Rep.one h3.rep u) (h4.one u)
theorem ZL.get:∀{xs:List e.Den} {cs:List Value},ZL N w e cs xs→∀i x,xs[i]? =some x→∃c,Rd N e w c x∧∀j u,c[j]? =some u→cs[i*e.wd+j]? =some u
 | [],_,_,i,x,hx=>by simp at hx
 | y::xs,_,⟨a,b,h2,h3,h4⟩,i,x,hx=>by
  have f:=h3.rep.len
  cases i with
  | zero=>
   grind
  | succ i=>
   obtain ⟨c,h,k⟩:=h4.get i x hx
   grind
end
def zrR (E:TypeId)(e:Ty)(xs:List e.Den):Rsc where
 rel N w f v:=∃cs,w.ownsRow 0 E e.wd v xs.length cs∧ZL N w e cs xs∧((v.ownBlock=none∧f=[])∨∃g,v.ownBlock=some g∧f=[g])
 fl:=false
 keep:=fun ⟨cs,h1,h2,h3⟩ hf hN=>by
  refine ⟨cs,⟨h1.1,?_⟩,h2.mono hN,h3⟩
  rcases h1.2 with h|⟨g,cap,cur,k1,k2,k3,k4⟩
  ·exact .inl h
  ·refine .inr ⟨g,cap,cur,k1,k2,?_,k4⟩
   rw[k1] at h3
   rcases h3 with ⟨h,_⟩|⟨g',h,h'⟩
   ·cases h
   ·cases h;rw[hf g (by rw[h'];simp)];exact k3
 lt:=fun ⟨cs,h1,h2,h3⟩ g hg=>by
  rcases h1.2 with ⟨h,_⟩|⟨g',cap,cur,k1,k2,k3,k4⟩
  ·rw[h] at h3
   rcases h3 with ⟨_,h'⟩|⟨_,h',_⟩
   ·rw[h'] at hg;cases hg
   ·cases h'
  ·rw[k1] at h3
   rcases h3 with ⟨h,_⟩|⟨g2,h,h'⟩
   ·cases h
   ·cases h
    rw[h',aI] at hg
    rw[hg]
    exact (cp.1 k3).1
 one:=fun ⟨cs,h1,_⟩=>by
  rcases h1.2 with ⟨h,_⟩|⟨_,_,_,h,_⟩ <;> rw[h] <;> rfl
 noN:=fun h=>by cases h
def UD {E:TypeId}{e:Ty}{xs ys:List e.Den}(h:xs=ys):some (Ent.res (zrR E e xs))=some (Ent.res (zrR E e ys)):=congrArg (fun z=>some (Ent.res (zrR E e z))) h
section
variable {A:Amb}{P:Program}{s:St}{x y:Operand}{d:Nat}{T ty:TypeId}{pos:String}{af:Array Edge}{g:Option (Nat×Bool)}
def Rg.takeR {gh:Gh}{a:Act}{w w':World}(r:Rg A s gh a w){t:Nat}{R:Rsc}{u:Value}{f:List Nat}(used:List Nat)(C:∀q∈used,s.tab.al q)(m:Fresh s t)(G:A.k0≤t)(h:R.rel gh.N w' f u)(n:f.Nodup)
 (hf:∀g∈f,w.heap.size≤g∨∃q∈used,g∈gh.f q) (j:Grw w w') (hb:∀g,g<w.heap.size→(∀q∈used,g∉gh.f q)→w'.heap[g]? =w.heap[g]?):
 Rg A ⟨s.tm,(t,some (.res R))::(WM used++s.tab)⟩ ⟨upd gh.h t u,upd gh.f t f,gh.N⟩ a w':=
 r.redo (fun v=>v=t∨v∈used) rfl (fun v b=>⟨by rw[Qi,if_neg fun h=>b (.inl h),XR,if_neg fun h=>b (.inr h)],VL _ _ fun h=>b (.inl h),VL _ _ fun h=>b (.inl h)⟩) (fun v L b c=>by
  by_cases i:v=t
  ·subst i
   rw[Qi,if_pos rfl] at c
   cases c
   refine ⟨fun al=> ?_,?_,fun g j=> ?_,.inr ⟨m,G⟩⟩
   ·show R.rel gh.N w' (upd gh.f v f v) (upd gh.h v u v)
    rw[Yo,Yo];exact h
   ·show (upd gh.f v f v).Nodup
    rw[Yo];exact n
   ·have j:g∈upd gh.f v f v:=j
    rw[Yo] at j
    exact (hf g j).imp id fun ⟨q,p,D⟩=>⟨q,.inr p,C q p,D⟩
  ·rw[Qi,if_neg i,XR,if_pos (b.resolve_left i)] at c
   cases c) (fun v K b o ⟨_,F⟩ ⟨_,l⟩ I=>by
  have k:∀v,(v=t∨v∈used)→∀e,Tab.ent ((t,some (.res R))::(WM used++s.tab)) v=some e→v=t:=fun v b e z=>by
   by_cases i:v=t
   ·exact i
   ·rw[Qi,if_neg i,XR,if_pos (b.resolve_left i)] at z;cases z
  exact absurd ((k v b _ F).trans (k K o _ l).symm) I) j fun g H J=>hb g H fun q B=>J q (.inr B) (C q B)
theorem Y6 {q:Nat}{E:TypeId}{e:Ty}(c:s.tab.ent q=some (.arr E e [])):Wk A s ⟨s.tm,(q,some (.res (zrR E e [])))::s.tab⟩:=fun a w ⟨gh,r⟩=>by
 have j:Own (.sl E e) w (gh.f q) [gh.h q] []:=r.cx.en q _ c
 obtain ⟨i,fps,k,⟨l,b⟩,m⟩:=j.row
 refine ⟨gh,r.mod c (ZN w) (fun _ _ _=>rfl) ⟨i,k,b,?_⟩⟩
 grind
def Qwj {al:Nat→Prop}{gh:Gh}{w:World}{e:Ty}:∀{xs:List e.Den} {vs:List Value},CmsR al gh w (xs.map fun p=>(true,leaves e p)) vs→ZL gh.N w e (vs.flatMap fun v=>v.cells.toList) xs∧(∀v∈vs,v.cells.size=e.wd)∧vs.length=xs.length
 | [],vs,h=>by rw[show vs=[] from h];exact ⟨rfl,fun v b=>(by cases b),rfl⟩
 | x::xs,_,⟨v,vs,rfl,⟨us,b,h1⟩,h2⟩=>by
  obtain ⟨i,j,k⟩:=Qwj h2
  have c:Rd gh.N e w us x:=LVs.rd h1
  have f:v.cells.toList=us:=by rw[b];simp[Value.cells]
  refine ⟨⟨us,_,by rw[di,f],c,i⟩,fun u a=> ?_,by rw[av,av,k]⟩
  rcases aK.1 a with rfl|a
  ·rw[show u.cells.size=u.cells.toList.length by simp,f,c.rep.len]
  ·exact j u a
theorem QbS (t:Nat){E:TypeId}{e:Ty}{n:Nat}{b:Array (Nat×Operand)}{m:List (Bool×List LV)}(xs:List e.Den){z:Value}(hT:P.underlying T=some (.slice E))(Z:tsh P E=some (true,e.wd))(hz:zer P E=some z)
 (hpn:b.toList.map (·.1)=List.range n) (hv:EvL A s (b.toList.map (·.2)) m) (hcs:m=xs.map fun p=>(true,leaves e p)) (hsz:Nat.ble (n*e.wd) 16777216=true) (hn:Nat.blt d A.n=true) (hfr:Fresh s t) (hk0:A.k0≤t):
 Does A P ⟨some d,.buildSlice T n b,ty,pos,af,g⟩ s ⟨(d,lf (.ref t))::s.tm,(t,some (.res (zrR E e xs)))::s.tab⟩:=fun a w K Q r hK=>by
 subst hcs
 obtain ⟨gh,r⟩:=r
 have U:=hv.cms r
 generalize W:(b.toList.map (·.2)).map a.eval=vs at*
 obtain ⟨L,Y,h4⟩:=Qwj U
 have S:vs.length=n:=by
  have:=congrArg List.length hpn
  rw[← W]
  simpa using this
 have j:(b.map fun p=>(p.1,a.eval p.2)).toList=(vs.zipIdx 0).map fun p=>(p.2,p.1):=by
  rw[da]
  apply bL
  intro i
  have X:=congrArg (fun l=>l[i]?) hpn
  have J:=congrArg (fun l=>l[i]?) W
  simp only[bl] at X J ⊢
  rw[List.getElem?_zipIdx]
  cases hp:b.toList[i]? with
  | none=>
   have H:vs[i]? =none:=by rw[hp] at J;exact J.symm
   simp[H]
  | some p=>
   grind
 obtain ⟨c,I,k2⟩:=Jr e.wd vs 0 ((Array.range (n*e.wd)).map (((if n*e.wd=0 then #[] else z.cells):Array Value)[· % ((if n*e.wd=0 then #[] else z.cells):Array Value).size]!)) Y (by simp[S])
 have G:(execOp a.eval ⟨some d,.buildSlice T n b,ty,pos,af,g⟩).run P w= .ok (.value (.slice (some ⟨w.heap.size,0,none⟩) n n)) (w.alloc (.cells c E)):=by
  have O:=aD hsz
  have F:¬(n*e.wd > 2 ^ 24):=by omega
  simp only[execOp,Instr.buildSlice,aw,run_underlying hT,aF,YD Z]
  rw[if_neg F]
  by_cases H:n*e.wd=0
  ·rw[if_pos H] at I ⊢
   simp only[be,aF,aw]
   rw[j,I]
   simp[newRow,aw]
  ·rw[if_neg H] at I ⊢
   simp only[be,aF,aw,Wc hz]
   rw[j,I]
   simp[newRow,aw]
 unfold Oper.wp
 rw[G,Oper.upon_value]
 have k:xs.length=n:=by omega
 have B:c.toList=vs.flatMap fun v=>v.cells.toList:=by rw[k2];simp
 have h:c.size=n*e.wd:=by rw[show c.size=c.toList.length by simp,B,L.len,k]
 have o:∀g,g<w.heap.size→(w.alloc (.cells c E)).heap[g]? =w.heap[g]? :=fun g C=>Below.heap_alloc w _ g C
 have D:n≤maxLen:=by
  have hw:=WY e
  have O:=aD hsz
  have:n*1≤n*e.wd:=Nat.mul_le_mul_left _ hw
  unfold maxLen;omega
 have M:∀g,gh.N g→gh.N g∧(w.alloc (.cells c E)).heap[g]? =w.heap[g]? :=fun g V=>⟨V,o g (r.cx.nl g V)⟩
 refine hK _ _ ⟨_,(r.takeR (R:=zrR E e xs) (u:= .slice (some ⟨w.heap.size,0,none⟩) n n) (f:=[w.heap.size]) [] (by simp) hfr hk0 ⟨_,⟨?_,.inr ⟨w.heap.size,n,c,by rw[k],aL _,heap_alloc_new w _,by omega,D,h,?_⟩⟩,L.mono M,.inr ⟨_,rfl,rfl⟩⟩ (by simp) (fun g C=> .inl (by simp at C;omega)) ⟨rfl,rfl,rfl,by simp⟩ fun g C _=>o g C).put (aD hn) (pv:=lf (.ref t)) ⟨_,rfl,fun _=>(Yo ..).symm⟩⟩
 ·exact L.len
 ·rw[← B];exact aJ (by rw[show c.toList.length=c.size by simp,h,k];exact aP _)
theorem XM (t:Nat){q c:Nat}{E:TypeId}{e:Ty}{xs ys:List e.Den}(D:Evl A s x (.ref q))(F:s.tab.ent q=some (.res (zrR E e xs)))(hy:Evl A s y (.ref c))(k:s.tab.ent c=some (.res (zrR E e ys)))(a0:0<ys.length)
 (hT:P.underlying T=some (.slice E)) (hE:Xv P E e.wd=true) (hb:xs.length+ys.length≤1073741824) (hn:Nat.blt d A.n=true) (hfr:Fresh s t) (hk0:A.k0≤t):
 Does A P ⟨some d,.call {callee:= .builtin .append,args:= #[x,y],argTypes:= #[T,T]},ty,pos,af,g⟩ s ⟨(d,lf (.ref t))::s.tm,(t,some (.res (zrR E e (xs++ys))))::(WM [q,c]++s.tab)⟩:=fun a w K Q r hK=>by
 obtain ⟨gh,r⟩:=r
 obtain ⟨O,r1,r2,r3⟩:(zrR E e xs).rel gh.N w (gh.f q) (gh.h q):=r.cx.en q _ F
 obtain ⟨b,V,W,n3⟩:(zrR E e ys).rel gh.N w (gh.f c) (gh.h c):=r.cx.en c _ k
 rcases V.2 with ⟨_,h0⟩|⟨g2,H,Z,v2,_,m1,m2,m3,m4,m5⟩
 ·omega
 obtain ⟨i,z,i1,i2,i3,i4,i5⟩:=QeH hE
 have J:(xs.length+ys.length)*i.bytes≤140737488355328:=by
  calc (xs.length+ys.length)*i.bytes≤1073741824*65536:=cO (by omega) i4
   _≤140737488355328:=by decide
 obtain ⟨X,w',Y,M,p,a4,o⟩:=run_append_own_at (P:=P) (w:=w) 0 T ty E i z e.wd i.bytes hT i1 i2 i3 rfl i5 (WY e) (gh.h q) xs.length O r1 ⟨g2,0,none⟩ ys.length H b V.1 (fun j u G=>by
  rw[Addr.add_lit,bJ]
  rw[← m5,bf] at G
  split at G
  ·simp only[World.cell?,m1]
   simpa using G
  ·cases G) (ZL.one W) (by unfold maxLen;omega) J (aL _)
 have C:∀g,(gh.h q).ownBlock=some g→g∈gh.f q:=fun g l=>by
  grind
 have B:∀g,g<w.heap.size→g∉gh.f q→w'.heap[g]? =w.heap[g]? :=fun g l D=>p.block g l fun h9=>D (C g h9.symm)
 have v:∀g,gh.N g→gh.N g∧w'.heap[g]? =w.heap[g]? :=fun g I=>⟨I,B g (r.cx.nl g I) fun h=>r.cx.no q ⟨_,F⟩ g h I⟩
 have L:X.ownBlock≠none:=fun h=>by
  rcases M.2 with ⟨U,h2⟩|⟨g,_,_,U,_⟩
  ·omega
  ·rw[U] at h;cases h
 obtain ⟨S,m⟩:=Option.ne_none_iff_exists'.1 L
 refine QcI rfl (by rw[show a.eval x=gh.h q from D gh a w r ⟨_,F⟩,show a.eval y=gh.h c from hy gh a w r ⟨_,k⟩,v2];exact Y) (hK _ _ ⟨_,(r.takeR (R:=zrR E e (xs++ys)) (u:=X) (f:=[S]) [q,c] (by simp only[aK,bO,or_false];rintro _ (rfl|rfl);exact ⟨_,F⟩;exact ⟨_,k⟩) hfr hk0 ⟨O++b,by rw[ai];exact M,(r2.mono v).app (W.mono v),.inr ⟨S,m,rfl⟩⟩ (by simp) (fun g l=> ?_) ⟨p.os,p.tape,p.output,p.size⟩ fun g l D=>B g l (D q (by simp))).put (aD hn) (pv:=lf (.ref t)) ⟨_,rfl,fun _=>(Yo ..).symm⟩⟩)
 rw[aI] at l
 subst l
 rcases o with o|o
 ·exact .inr ⟨q,by simp,C g (by rw[← o];exact m)⟩
 ·rw[m] at o;cases o;exact .inl (aP _)
def ZL.rd {N:Nat→Prop}{w:World}{E:TypeId}{e:Ty}{v:Value}{cs:List Value}{xs:List e.Den}{f:List Nat}(J:w.ownsRow 0 E e.wd v xs.length cs)(K:ZL N w e cs xs)(p:(v.ownBlock=none∧f=[])∨∃g,v.ownBlock=some g∧f=[g]):
 Rd (fun g=>N g∨g∈f) (.sl E e) w [v] xs:=by
 obtain ⟨M,I,o⟩:=Ji (fun g=>N g∨g∈f) w
 refine ⟨M,I,?_⟩
 rcases J.2 with ⟨a,k⟩|⟨g,i,r,a,_,k,z,B,O,C⟩
 ·obtain rfl:=bF k
  exact ⟨none,0,by rw[a];rfl,aP _,aL _,fun h=>absurd h (by simp)⟩
 ·refine ⟨_,i,by rw[a],z,B,fun _=>⟨g,0,rfl,fun j y G=> ?_⟩⟩
  obtain ⟨t,⟨Q,L,w2⟩,H⟩:=K.get j y G
  refine ⟨t,w2.kp (L.kp fun n l=>o n (.inl l)),fun b u F=> ?_⟩
  have c:=H b u F
  rw[← C,bf] at c
  have m:g∈f:=by
   rw[a] at p
   rcases p with ⟨h,_⟩|⟨n,h,D⟩
   ·cases h
   ·cases h;rw[D];simp
  split at c
  ·rw[dl (o g (.inr m))]
   simp only[World.cell?,k]
   simpa using c
  ·cases c
def K1 {i q:Nat}{E:TypeId}{e:Ty}{xs:List e.Den}(hi:lk s.tm i=some (lf (.ref q)))(b:s.tab.ent q=some (.res (zrR E e xs))):
 Wk A s ⟨(i,lf (.dat (.sl E e) xs))::s.tm,(q,none)::s.tab⟩:=fun a w r=>by
 obtain ⟨gh,r⟩:=r
 obtain ⟨v,j,l,c,k⟩:=r.tm i _ hi
 simp only[aN,and_true] at c
 subst c
 have m:v=gh.h q:=k ⟨_,b⟩
 obtain ⟨t,n,o,p⟩:(zrR E e xs).rel gh.N w (gh.f q) (gh.h q):=r.cx.en q _ b
 refine ⟨_,(r.freeze b).know j (pv:=lf (.dat (.sl E e) xs)) ⟨_,rfl,?_⟩⟩
 rw[m]
 exact ZL.rd n o p
def ZL.parts {N:Nat→Prop}{w:World}{e:Ty}:∀{xs:List e.Den} {cs:List Value} {i:Nat} {x:e.Den},ZL N w e cs xs→xs[i]? =some x→
 ∃b j c,cs=b++(j++c)∧b.length=i*e.wd∧Rd N e w j x∧∀w' a y,(∀g,N g→w'.heap[g]? =w.heap[g]?)→Rd N e w' a y→ZL N w' e (b++(a++c)) (xs.set i y)
 | [],_,_,_,_,h=>by simp at h
 | x0::xs,_,0,x,⟨c1,c2,h2,h3,h4⟩,hx=>by
  cases hx
  exact ⟨[],c1,c2,h2,by simp,h3,fun w' a y k l=>⟨a,c2,rfl,l,h4.mono fun g f=>⟨f,k g f⟩⟩⟩
 | x0::xs,_,i+1,x,⟨c1,c2,h2,h3,h4⟩,hx=>by
  obtain ⟨b,j,c,m,n,o,p⟩:=h4.parts (i:=i) hx
  refine ⟨c1++b,j,c,by rw[h2,m,aM],by rw[ai,h3.rep.len,n,cw];omega,o,fun w' a y k l=> ?_⟩
  exact ⟨c1,b++(a++c),by rw[aM],h3.mono fun g f=>⟨f,k g f⟩,p w' a y k l⟩
end
def LV.thawR (T:Tab)(q0:Nat)(l0:LV):LV→LV
 | .ref q=>if q=q0 then l0 else (LV.ref q).thaw T
 | l=>l
def PV.thawR (T:Tab)(q0:Nat)(l0:LV):PV→PV
 | .cm b ls=> .cm b (ls.map (LV.thawR T q0 l0))
 | .tup cs=> .tup (cs.map fun c=>(c.1,c.2.map (LV.thawR T q0 l0)))
section
variable {T:Tab}{gh:Gh}{w:World}{q0:Nat}{E:TypeId}{e:Ty}{xs:List e.Den}
def LVR.thawR (a:Cx T gh w)(b:T.ent q0=some (.res (zrR E e xs))){l:LV}{v:Value}(h:LVR T.al gh w l v):LVR (Tab.al []) ⟨gh.h,gh.f,fun g=>gh.N g∨∃q,T.al q∧g∈gh.f q⟩ w (LV.thawR T q0 (.dat (.sl E e) xs) l) v:=by
 cases l with
 | ref q=>
  simp only[LV.thawR]
  split
  ·rename_i c
   subst c
   have j:v=gh.h q:=h ⟨_,b⟩
   obtain ⟨o,k,m,n⟩:(zrR E e xs).rel gh.N w (gh.f q) (gh.h q):=a.en q _ b
   rw[j]
   exact (ZL.rd k m n).mono fun g i=>⟨i.imp id fun h=>⟨q,⟨_,b⟩,h⟩,rfl⟩
  ·exact LVR.thaw a h
 | _=>exact LVR.thaw a h
def LVs.thawR (a:Cx T gh w)(i:T.ent q0=some (.res (zrR E e xs))){ls:List LV}{vs:List Value}(h:LVs T.al gh w ls vs):LVs (Tab.al []) ⟨gh.h,gh.f,fun g=>gh.N g∨∃q,T.al q∧g∈gh.f q⟩ w (ls.map (LV.thawR T q0 (.dat (.sl E e) xs))) vs:=by
 induction ls generalizing vs with
 | nil=>exact h
 | cons l ls j=>obtain ⟨v,k,rfl,b,c⟩:=h;exact ⟨v,_,rfl,b.thawR a i,j c⟩
def CmR.thawR (i:Cx T gh w)(j:T.ent q0=some (.res (zrR E e xs))){c:Bool×List LV}{v:Value}(h:CmR T.al gh w c v):CmR (Tab.al []) ⟨gh.h,gh.f,fun g=>gh.N g∨∃q,T.al q∧g∈gh.f q⟩ w (c.1,c.2.map (LV.thawR T q0 (.dat (.sl E e) xs))) v:=by
 obtain ⟨b,m⟩:=c
 cases b with
 | true=>obtain ⟨k,rfl,a⟩:=h;exact ⟨k,rfl,a.thawR i j⟩
 | false=>obtain ⟨l,rfl,a⟩:=h;exact ⟨_,rfl,a.thawR i j⟩
def PVR.thawR (i:Cx T gh w)(k:T.ent q0=some (.res (zrR E e xs))){pv:PV}{v:Value}(h:PVR T.al gh w pv v):PVR (Tab.al []) ⟨gh.h,gh.f,fun g=>gh.N g∨∃q,T.al q∧g∈gh.f q⟩ w (pv.thawR T q0 (.dat (.sl E e) xs)) v:=by
 cases pv with
 | cm b p=>exact CmR.thawR i k (c:=(b,p)) h
 | tup a=>
  obtain ⟨l,rfl,j⟩:=h
  refine ⟨l,rfl,?_⟩
  induction a generalizing l with
  | nil=>exact j
  | cons c a o=>obtain ⟨v,r,rfl,m,n⟩:=j;exact ⟨v,_,rfl,m.thawR i k,o _ n⟩
end
def Qa5 (q0:Nat){P:Program}{f:FuncId}{args:List (Bool×List LV)}{pv:PV}{T:Tab}{E:TypeId}{e:Ty}{xs:List e.Den}(h:FC P f args [] 0 (Is pv T))(m:T.ent q0=some (.res (zrR E e xs))):FC P f args [] 0 (QJ (pv.thawR T q0 (.dat (.sl E e) xs))):=fun gh w r k l=>
 Calls.mono (h gh w r k l) fun u w' j=>by
  obtain ⟨v,o,t,gh',rfl,⟨rfl,rfl⟩,b,n,i,_⟩:=j
  refine ⟨v,_,[],_,rfl,⟨rfl,rfl⟩,VA ZO _ _ fun g a=> ?_,n.thawR b m,⟨i.gw,i.kp,fun g a=> ?_,fun q c=>absurd c (ZO q)⟩,fun q c=>absurd c (by omega)⟩
  ·rcases a with a|⟨q,c,a⟩
   ·exact b.nl g a
   ·exact b.lt c g a
  ·rcases a with a|⟨q,c,a⟩
   ·exact i.nn g a
   ·rcases i.ox q c g a with h|⟨p,h,_⟩
    ·exact .inr (.inl h)
    ·exact absurd h (ZO p)
def LV.th1 (q0:Nat)(l0:LV):LV→LV
 | .ref q=>if q=q0 then l0 else .ref q
 | l=>l
def PV.th1 (q0:Nat)(l0:LV):PV→PV
 | .cm b ls=> .cm b (ls.map (LV.th1 q0 l0))
 | .tup cs=> .tup (cs.map fun c=>(c.1,c.2.map (LV.th1 q0 l0)))
section
variable {A:Amb}{s:St}{q:Nat}{E:TypeId}{e:Ty}{xs:List e.Den}{al al':Nat→Prop}{gh gh':Gh}{w:World}{l0:LV}
def LVs.th1 (a:∀l v,LVR al gh w l v→LVR al' gh' w (LV.th1 q l0 l) v):∀{ls:List LV} {vs:List Value},LVs al gh w ls vs→LVs al' gh' w (ls.map (LV.th1 q l0)) vs
 | [],_,h=>h
 | _::_,_,⟨v,vs',h0,h1,h2⟩=>⟨v,vs',h0,a _ _ h1,LVs.th1 a h2⟩
def CmR.th1 (f:∀l v,LVR al gh w l v→LVR al' gh' w (LV.th1 q l0 l) v){c:Bool×List LV}{v:Value}(h:CmR al gh w c v):CmR al' gh' w (c.1,c.2.map (LV.th1 q l0)) v:=by
 obtain ⟨b,j⟩:=c
 cases b with
 | true=>obtain ⟨i,rfl,a⟩:=h;exact ⟨i,rfl,LVs.th1 f a⟩
 | false=>obtain ⟨l,rfl,a⟩:=h;exact ⟨_,rfl,f _ _ a⟩
def CmsR.th1 (a:∀l v,LVR al gh w l v→LVR al' gh' w (LV.th1 q l0 l) v):∀{cs:List (Bool×List LV)} {vs:List Value},CmsR al gh w cs vs→CmsR al' gh' w (cs.map fun c=>(c.1,c.2.map (LV.th1 q l0))) vs
 | [],_,h=>h
 | _::_,_,⟨v,vs',h0,h1,h2⟩=>⟨v,vs',h0,CmR.th1 a h1,CmsR.th1 a h2⟩
def PVR.th1 (a:∀l v,LVR al gh w l v→LVR al' gh' w (LV.th1 q l0 l) v){pv:PV}{v:Value}(h:PVR al gh w pv v):PVR al' gh' w (pv.th1 q l0) v:=by
 cases pv with
 | cm b i=>exact CmR.th1 a (c:=(b,i)) h
 | tup k=>obtain ⟨j,rfl,f⟩:=h;exact ⟨j,rfl,CmsR.th1 a f⟩
def QsU {i:Nat}{pv:PV}{c:Ent}(hi:lk s.tm i=some pv)(b:s.tab.ent q=some c)(p:∀gh w,EntR s.tab.al gh w q c→Rd (fun g=>gh.N g∨g∈gh.f q) (.sl E e) w [gh.h q] xs):
 Wk A s ⟨(i,pv.th1 q (.dat (.sl E e) xs))::s.tm,(q,none)::s.tab⟩:=fun a w r=>by
 obtain ⟨gh,r⟩:=r
 obtain ⟨v,n,o⟩:=r.tm i _ hi
 have t:=p gh w (r.cx.en q _ b)
 refine ⟨_,(r.freeze b).know n (PVR.th1 (fun l v k=> ?_) o)⟩
 by_cases j:l= .ref q
 ·subst j
  have u:v=gh.h q:=k ⟨_,b⟩
  simp only[LV.th1,if_pos]
  rw[u];exact t
 ·have m:LV.th1 q (.dat (.sl E e) xs) l=l:=by
   cases l with
   | ref z=>simp only[LV.th1];rw[if_neg fun h=>j (by rw[h])]
   | _=>rfl
  rw[m]
  exact k.mono (fun z _ h=>by
   obtain ⟨x,h⟩:=h
   rw[Qi] at h
   split at h
   ·cases h
   ·exact ⟨⟨x,h⟩,rfl⟩) fun g h=>⟨.inl h,rfl⟩
def Wk.thawR {i:Nat}{pv:PV}(hi:lk s.tm i=some pv)(a:s.tab.ent q=some (.res (zrR E e xs))):Wk A s ⟨(i,pv.th1 q (.dat (.sl E e) xs))::s.tm,(q,none)::s.tab⟩:=
 QsU hi a fun gh w ⟨_,b,c,f⟩=>ZL.rd b c f
end
section
variable {A:Amb}{P:Program}{s:St}{x y:Operand}{T ty:TypeId}{pos:String}{af:Array Edge}{g:Option (Nat×Bool)}
def QqA {d:Nat}{b:TypeId}{m n:UInt8}(o:Evl A s x (.dat .u8 m))(p:Evl A s y (.dat .u8 n))(k:Nat.blt d A.n=true):Does A P ⟨some d,.binOp .xor T x y b,ty,pos,af,g⟩ s (s.put d (lf (.dat .u8 (m ^^^ n)))):=
 Qk rfl k fun q a w r=>by
  have c:=o.u r
  have e:=p.u r
  have v:m.toNat<256:=UInt8.toNat_lt _
  have l:n.toNat<256:=UInt8.toNat_lt _
  have j:bits .xor .u8 (m.toNat:Int) (n.toNat:Int)=((m ^^^ n).toNat:Int):=by
   show IntKind.u8.wrap ((BitVec.ofInt 8 (m.toNat:Int) ^^^ BitVec.ofInt 8 (n.toNat:Int)).toNat:Int)=_
   have h:(BitVec.ofInt 8 (m.toNat:Int)).toNat=m.toNat:=by rw[BitVec.ofInt_natCast,BitVec.toNat_ofNat];exact cH (by omega)
   have i:(BitVec.ofInt 8 (n.toNat:Int)).toNat=n.toNat:=by rw[BitVec.ofInt_natCast,BitVec.toNat_ofNat];exact cH (by omega)
   have t:(m ^^^ n).toNat<256:=UInt8.toNat_lt _
   rw[BitVec.toNat_xor,h,i,← UInt8.toNat_xor,IntWalk.u8_in _ (by omega)]
  have f:Op.intBits .xor .u8 (m.toNat:Int) (n.toNat:Int)=pure (.int .u8 ((m ^^^ n).toNat:Int)):=by rw[← j];rfl
  refine ⟨.int .u8 ((m ^^^ n).toNat:Int),?_,_,rfl,QiD⟩
  simp only[execOp,c,e,eqGuard_at_int,binOp,f]
  simp
def VQ (t:Nat){d:Nat}{E E':TypeId}{e:Ty}{ys:List e.Den}{z:Value}(L:P.underlying T=some (.slice E))(I:tsh P E=some (false,1))(U:zer P E=some z)(S:Ev A s y (false,[.dat (.sl E' e) ys]))(M:Nat.blt d A.n=true)(F:Fresh s t)(G:A.k0≤t):
 Does A P ⟨some d,.buildSlice T 1 #[(0,y)],ty,pos,af,g⟩ s ⟨(d,lf (.ref t))::s.tm,(t,some (.res (zrR E (.sl E' e) [ys])))::s.tab⟩:=fun a w K Q r J=>by
 obtain ⟨q,r⟩:=r
 obtain ⟨l,k,O⟩:=S q a w r
 simp only[aN,and_true] at k
 subst k
 have m:Rd q.N (.sl E' e) w [a.eval y] ys:=O
 obtain ⟨X,c,v,Y,Z,h4⟩:=m.rep
 simp only[aN,and_true] at v
 have C:(a.eval y).cells.size=1:=by rw[v];rfl
 obtain ⟨b,V,W⟩:=Jr 1 [a.eval y] 0 ((Array.range (1*1)).map ((z.cells)[· % (z.cells).size]!)) (by simpa using C) (by simp)
 have o:(execOp a.eval ⟨some d,.buildSlice T 1 #[(0,y)],ty,pos,af,g⟩).run P w= .ok (.value (.slice (some ⟨w.heap.size,0,none⟩) 1 1)) (w.alloc (.cells b E)):=by
  simp only[execOp,Instr.buildSlice,aw,run_underlying L,aF,YD I]
  rw[if_neg (by decide),if_neg (by decide)]
  simp only[be,aF,aw,Wc U]
  rw[show (Array.map (fun p:Nat×Operand=>(p.1,a.eval p.2)) #[(0,y)]).toList=([a.eval y].zipIdx 0).map fun p=>(p.2,p.1) by simp,V]
  simp[newRow,aw]
 unfold Oper.wp
 rw[o,Oper.upon_value]
 have i:∀g,g<w.heap.size→(w.alloc (.cells b E)).heap[g]? =w.heap[g]? :=fun g j=>Below.heap_alloc w _ g j
 have h:b.toList=[a.eval y]:=by
  rw[W,v];rfl
 have D:b.size=1:=by rw[show b.size=b.toList.length by simp,h];rfl
 have B:∀g,q.N g→q.N g∧(w.alloc (.cells b E)).heap[g]? =w.heap[g]? :=fun g H=>⟨H,i g (r.cx.nl g H)⟩
 refine J _ _ ⟨_,(r.takeR (R:=zrR E (.sl E' e) [ys]) (u:= .slice (some ⟨w.heap.size,0,none⟩) 1 1) (f:=[w.heap.size]) [] (by simp) F G ⟨[a.eval y],⟨rfl,.inr ⟨w.heap.size,1,b,rfl,aL _,heap_alloc_new w _,aP _,by unfold maxLen;omega,D,?_⟩⟩,⟨[a.eval y],[],rfl,m.mono B,rfl⟩,.inr ⟨_,rfl,rfl⟩⟩ (by simp) (fun g j=> .inl (by simp at j;omega)) ⟨rfl,rfl,rfl,by simp⟩ fun g j _=>i g j).put (aD M) (pv:=lf (.ref t)) ⟨_,rfl,fun _=>(Yo ..).symm⟩⟩
 rw[aJ (by rw[h];exact aP _),h]
def Own.splice {w:World}{e t:Ty}{z z':e.Den}{x0:t.Den}{j:Nat}{c U:List Nat}{a vs:List Value}(h:Own e w c a z)(k:Own t w U vs x0)(F:j+vs.length≤e.wd)(B:leaves e z'=splice (leaves e z) j (leaves t x0)):
 ∃f1 i b,c=f1++(i++b)∧Own e w (f1++(U++b)) (a.take j++vs++a.drop (j+vs.length)) z':=by
 have d:LOs (fun _=>False) ⟨fun _=> .bool false,fun _=>[],fun _=>False⟩ w (leaves e z) c a:=Own.los h
 have p:LOs (fun _=>False) ⟨fun _=> .bool false,fun _=>[],fun _=>False⟩ w (leaves t x0) U vs:=Own.los k
 have C:(leaves t x0).length=vs.length:=p.len.symm
 have n:a.length=(leaves e z).length:=d.len
 have o:a.length=e.wd:=h.len
 rw[← bB j (leaves e z),← bB vs.length ((leaves e z).drop j)] at d
 obtain ⟨f1,i,c1,c2,rfl,rfl,l,u⟩:=Ki d
 obtain ⟨b,r,c3,c4,rfl,rfl,v,m⟩:=Ki u
 have f:c1.length=j:=by rw[l.len,au];simp only[ai] at n o;omega
 have q:c3.length=vs.length:=by rw[v.len,au,aX];simp only[ai] at n o;omega
 refine ⟨f1,b,r,rfl,LOs.own (al:=fun _=>False) (gh:=⟨fun _=> .bool false,fun _=>[],fun _=>False⟩) ?_⟩
 rw[B]
 have D:(c1++(c3++c4)).take j=c1:=by rw[← f,dF]
 have E:(c1++(c3++c4)).drop (j+vs.length)=c4:=by rw[← f,List.drop_length_add_append,← q,List.drop_left]
 rw[D,E,aM]
 unfold Go.Proofs.YtjfpbcmfbnnooaaGreat.splice
 rw[aM,C]
 rw[ed] at m
 exact l.app (p.app m)
def Vl {q i j:Nat}{E:TypeId}{e t:Ty}{xs:List e.Den}{z z':e.Den}{x0:t.Den}{used:List Nat}{ls:List LV}{b:Bool}(hx:Evl A s x (.ept q e.wd i j))(O:s.tab.ent q=some (.arr E e xs))(hz:xs[i]? =some z)
 (hy:Ev A s y (b,ls)) (hk:QH s.tab ls=true) (hab:Abs s.tab t ls x0 used) (hun:(q::used).Nodup) (hT:tsh P T=some (b,ls.length)) (hl:Nat.ble (j+ls.length) e.wd=true) (hs:leaves e z'=splice (leaves e z) j (leaves t x0)):
 Does A P ⟨none,.store T x y,ty,pos,af,g⟩ s ⟨s.tm,(q,some (.arr E e (xs.set i z')))::(WM used++s.tab)⟩:=fun a w K Q r hK=>by
 obtain ⟨d,r⟩:=r
 obtain ⟨g,m,c,h1,h2⟩:=hx d a w r ⟨_,O⟩
 have hO:Own (.sl E e) w (d.f q) [d.h q] xs:=r.cx.en q _ O
 rcases hO with ⟨_,_,h⟩|⟨p,b7,C,fp,p2,p3,p4,p5,p6,p7,p8⟩
 ·subst h;simp at hz
 rw[h1] at p3
 simp only[aN,Value.slice.injEq,br,Addr.mk.injEq,and_true] at p3
 obtain ⟨rfl,rfl,rfl⟩:=p3
 have B:=hy d a w r
 obtain ⟨k,h7,h8⟩:=CmR.cells B fun hb=>by
  subst hb
  obtain ⟨l,rfl,h1⟩:=B
  simp only[QH,cY] at hk
  obtain ⟨h3,h4⟩:=Vf hk
  exact h1.oneCell h4 h3 fun q ⟨e,O⟩=>(r.cx.en q e O).oneCell
 have h9:k.length=ls.length:=h8.len
 have b9:=aD hl
 have a0:=(ae.1 hz).1
 obtain ⟨W,fi,X,G,n,F,k1,k2,k3,k4,k5⟩:=OwnL.parts p8 hz
 have b8:=k4.len
 obtain ⟨hU,M⟩:=Abs.own r.cx hab h8
 obtain ⟨U,f2,V,b0,Y⟩:=k4.splice hU (by omega) hs
 have b6:i*e.wd+e.wd≤xs.length*e.wd:=by
  calc i*e.wd+e.wd=(i+1)*e.wd:=by rw[cw,dq]
   _≤xs.length*e.wd:=cD _ a0
 have b5:xs.length*e.wd≤C.size:=by rw[p7];exact cD _ p5
 have a3:=VX (P:=P) (w:=w) (b:=g) (o:=i*e.wd+j) hT (a.eval y) k h7 h9 p4 (by omega) (h8.oneCells r.cx hk)
 have e0:(execOp a.eval ⟨none,.store T x y,ty,pos,af,‹_›⟩).run P w= .ok .skip (Wx w g (i*e.wd+j) k):=by
  simp only[execOp,h2,Instr.storeAt,Instr.sureAddr,aw,be,aF,a3]
 unfold Oper.wp
 rw[e0,Oper.upon_skip]
 obtain ⟨L,m1,m2,m3⟩:=Uw g E (0,0) k w (i*e.wd+j) C p4 (by omega)
 have D:∀p,p≠g→(Wx w g (i*e.wd+j) k).heap[p]? =w.heap[p]? :=fun p h=>Y9 _ _ _ _ _ h
 have hq:s.tab.al q:=⟨_,O⟩
 have b2:(d.f q++fps d.f used).Nodup:=Qh6 r.cx hun fun v B=>(aK.1 B).elim (fun h=>h▸hq) (M v)
 have hP:(g::(W++((U++(fps d.f used++V))++X))++f2).Perm (d.f q++fps d.f used):=by
  rw[p2,k1,b0]
  refine List.perm_iff_count.2 fun v=> ?_
  simp only[List.count_append,List.count_cons,cI]
  omega
 have R:(g::(W++((U++(fps d.f used++V))++X))).Nodup:=(bz.1 (hP.nodup_iff.2 b2)).1
 have Z:∀p∈W++((U++(fps d.f used++V))++X),p≠g:=fun p H h=>(bP.1 R).1 (h▸H)
 have a9:Own e (Wx w g (i*e.wd+j) k) (U++(fps d.f used++V)) (n.take j++k++n.drop (j+k.length)) z':=Y.keep fun p H=>D p (Z p (by simp only[aO] at H ⊢;exact .inr (.inl H)))
 have a1:=k5 _ _ _ z' (fun p H=>D p (Z p (by rcases H with H|H <;> simp[H]))) a9
 have a5:Own (.sl E e) (Wx w g (i*e.wd+j) k) (g::(W++((U++(fps d.f used++V))++X))) [d.h q] (xs.set i z'):=by
  refine .inr ⟨g,c,L,_,rfl,?_,m1,by simpa using p5,p6,by rw[m2];exact p7,?_⟩
  ·rw[h1];simp
  ·rw[ax]
   have e2:L.toList.take (xs.length*e.wd)=G++((n.take j++k++n.drop (j+k.length))++F):=by
    rw[m3]
    have e3:C.toList=G++(n++F)++C.toList.drop (xs.length*e.wd):=by rw[← k2,bB]
    have a8:(G++(n++F)).length=xs.length*e.wd:=by rw[← k2];simp;omega
    have a7:F.length=xs.length*e.wd - (i*e.wd+e.wd):=by simp only[ai] at a8;omega
    generalize C.toList.drop (xs.length*e.wd)=rest at e3
    rw[e3]
    have t1:(G++(n++F)++rest).take (i*e.wd+j)=G++n.take j:=by
     rw[aM,aM,← k3,List.take_length_add_append,List.take_append_of_le_length (by omega)]
    have t2:(G++(n++F)++rest).drop (i*e.wd+j+k.length)=n.drop (j+k.length)++(F++rest):=by
     rw[aM,aM,← k3,bX,List.drop_length_add_append,List.drop_append_of_le_length (by omega)]
    rw[t1,t2]
    have b1:(G++((n.take j++k++n.drop (j+k.length))++F)).length=xs.length*e.wd:=by
     simp only[ai,au,aX,k3,a7]
     omega
    rw[show G++List.take j n++k++(List.drop (j+k.length) n++(F++rest))=(G++((n.take j++k++n.drop (j+k.length))++F))++rest by simp,← b1,dF]
   rw[e2]
   exact a1
 refine hK _ _ ⟨⟨d.h,upd d.f q (g::(W++((U++(fps d.f used++V))++X))),d.N⟩,r.redo (fun v=>v=q∨v∈used) rfl (fun v B=>⟨by rw[Qi,if_neg fun h=>B (.inl h),XR,if_neg fun h=>B (.inr h)],rfl,VL _ _ fun h=>B (.inl h)⟩) (fun v e' B I=> ?_) (fun v v' B b4 ⟨_,ha⟩ ⟨_,a6⟩ hn=> ?_) (KR _ _ _ _) fun g1 _ hx=>D g1 fun h=>hx q (.inl rfl) hq (by rw[p2,h];simp)⟩
 ·by_cases S:v=q
  ·subst S
   rw[Qi,if_pos rfl] at I
   cases I
   refine ⟨fun al=> ?_,?_,fun g1 J=> .inr ?_,.inl ⟨hq,rfl⟩⟩
   ·show Own (.sl E e) _ (upd d.f v _ v) [d.h v] _
    rw[Yo];exact a5
   ·show (upd d.f v _ v).Nodup
    rw[Yo];exact R
   ·have J:g1∈upd d.f v (g::(W++((U++(fps d.f used++V))++X))) v:=J
    rw[Yo] at J
    have a4:=hP.mem_iff.1 (aU f2 J)
    rcases aO.1 a4 with h|h
    ·exact ⟨v,.inl rfl,hq,h⟩
    ·obtain ⟨u,hu,b3⟩:=QeR.1 h
     exact ⟨u,.inr hu,M u hu,b3⟩
  ·rw[Qi,if_neg S,XR,if_pos (B.resolve_left S)] at I
   cases I
 ·have a2:∀v,(v=q∨v∈used)→∀e9,Tab.ent ((q,some (.arr E e (xs.set i z')))::(WM used++s.tab)) v=some e9→v=q:=fun v B e9 O=>by
   by_cases S:v=q
   ·exact S
   ·rw[Qi,if_neg S,XR,if_pos (B.resolve_left S)] at O;cases O
  exact absurd ((a2 v B _ ha).trans (a2 v' b4 _ a6).symm) hn
end
@[reducible] def Ex {X:Type} (Q:X→Prop) (pv:X→PV) (T:X→Tab):PV→Tab→Prop:=fun p T'=>∃x,Q x∧p=pv x∧T'=T x
section
variable {A:Amb}{P:Program}{s:St}{f:FuncId}{xs:List Operand}{tys:Array TypeId}{args:List (Bool×List LV)}{d:Nat}{ty:TypeId}{pos:String}{af:Array Edge}{g:Option (Nat×Bool)}{T:Tab}{k:Nat}
  {X:Type} {Qx:X→Prop} {pv:X→PV} {T':X→Tab} {ops:Array Oper} {l:List Oper} {Q:Exit→St→Prop}
def DoesT.callX (n:Nat)(ρ:List (Nat×Nat))(O:FC P f args T k (Ex Qx pv T'))(L:Qe P f)(N:EvL A s xs (args.map fun c=>(c.1,c.2.map (LV.ren (rn ρ)))))(B:HasE s ρ T)
 (m:(WZ (T.map fun p=>rn ρ p.1)&&Nat.blt d A.n)=true) (hB:∀x,(YS (pv x) (T' x)&&WZ ((T' x).map fun p=>sg ρ k n p.1)&&QkV T (T' x) k)=true) (hfr:∀x,FrK s n k (ZU (T' x))) (hk0:A.k0≤n):
 DoesT A P ⟨some d,.call ⟨.value (.func f),xs.toArray,tys⟩,ty,pos,af,g⟩ s (fun s'=>∃x,Qx x∧s'=s.backP d (sg ρ k n) (T.map fun p=>rn ρ p.1) (pv x) (T' x)):=fun a w K Q r M=>by
 obtain ⟨G,r⟩:=r
 rw[aH] at m
 obtain ⟨m,S⟩:=m
 have b:∀q,T.al q→s.tab.al (rn ρ q):=fun q ⟨e,h⟩=>⟨_,B.get h⟩
 have o:∀q j,T.al q→T.al j→rn ρ q=rn ρ j→q=j:=fun q j u i h=>Ho m u i h
 have y:Cx T (G.via (rn ρ)) w:=⟨fun q e h=>(EntR.ren.1 (r.cx.en _ _ (B.get h))).mono (fun Y _ J=>⟨b Y J,rfl⟩) (fun g C=>⟨C,rfl⟩) rfl rfl fun _ _=>rfl,
  fun q j u i F=>r.cx.dj _ _ (b q u) (b j i) fun h=>F (o q j u i h),fun q h=>r.cx.nd _ (b q h),fun q h=>r.cx.no _ (b q h),r.cx.nl⟩
 have V:=(CmsR.ren.1 (N.cms r)).mono (al':=T.al) (gh':=G.via (rn ρ)) (w':=w) (fun q _ h=>⟨b q h,rfl⟩) fun g C=>⟨C,rfl⟩
 refine Qau L rfl (Calls.mono (O _ w _ y V) fun e Z R=> ?_)
 obtain ⟨v,W,T2,z,rfl,⟨x,t,rfl,rfl⟩,H,U,I,E⟩:=R
 have i:=hB x
 simp only[aH] at i
 refine M _ _ _ ⟨x,t,rfl⟩ (Qkm n ρ r B m i.1.1 i.1.2 (fun q ⟨e,t⟩ D=> ?_) (fun q ⟨e,t⟩ D=>(hfr x).get q (Zw t).1 D) hk0 S H U I E)
 have:=ao.1 i.2 q (Zw t).1
 rw[show Nat.blt q k=true from cK D] at this
 exact bq.1 (by simpa using this)
def Z7 (n:Nat)(ρ:List (Nat×Nat))(j:FC P f args T k (Ex Qx pv T'))(a:Qe P f)(i:EvL A s xs (args.map fun c=>(c.1,c.2.map (LV.ren (rn ρ)))))(b:HasE s ρ T)
 (hi:(WZ (T.map fun p=>rn ρ p.1)&&Nat.blt d A.n)=true) (hB:∀x,(YS (pv x) (T' x)&&WZ ((T' x).map fun p=>sg ρ k n p.1)&&QkV T (T' x) k)=true) (hfr:∀x,FrK s n k (ZU (T' x))) (hk0:A.k0≤n)
 (h:∀x,Qx x→AL A P ops l Q (s.backP d (sg ρ k n) (T.map fun p=>rn ρ p.1) (pv x) (T' x))):AL A P ops (⟨some d,.call ⟨.value (.func f),xs.toArray,tys⟩,ty,pos,af,none⟩::l) Q s:=
 QsC rfl (DoesT.callX n ρ j a i b hi hB hfr hk0) fun o ⟨x,m,e⟩=>e▸h x m
def QZ {fn:Func}{s:St}(x:X)(ρ:List (Nat×Nat)){a:PV}(i:Qx x)(b:Res A P fn s a)(h0:a=(pv x).ren (rn ρ))(c:HasE ⟨[],s.tab⟩ ρ (T' x))(e:WZ ((T' x).map fun x=>rn ρ x.1)=true)(h:idB ρ k=true):fin A P fn (Qa7 (Ex Qx pv T') k) .ret s:=
 QeL (pv x) (T' x) ρ (h0▸b) c e h ⟨x,i,rfl,rfl⟩
end
section
variable {A:Amb}{P:Program}{s:St}{f:FuncId}{xs:List Operand}{tys:Array TypeId}{args:List (Bool×List LV)}{d:Nat}{ty T:TypeId}{pos:String}{af:Array Edge}{g:Option (Nat×Bool)}
  {X:Type} {Qx:X→Prop} {pv:X→PV} {ops:Array Oper} {l:List Oper} {Q:Exit→St→Prop} {x:Operand}
end
def QpM {D:Nat→Bool}:∀{l l':List Item} {k:Nat} {acc:List (Nat×PV)},l.length=l'.length→(∀j,D (k+j)=true→l[j]? =l'[j]?)→pTm l D k acc=pTm l' D k acc
 | [],[],_,_,_,_=>rfl
 | [],_::_,_,_,h,_=>by cases h
 | _::_,[],_,_,h,_=>by cases h
 | x::l,y::l',k,acc,h,hd=>by
  have e:(match D k with|true=>Qcx acc x.d x.pv|false=>acc)=(match D k with|true=>Qcx acc y.d y.pv|false=>acc):=by
   cases c:D k with
   | false=>rfl
   | true=>
    have a:=hd 0 c
    simp only[bQ,br] at a
    subst a;rfl
  exact (QpM (l:=l) (l':=l') (k:=k+1) (by simpa using h) fun j f=>by
   have b:=hd (j+1) (by rwa [show k+(j+1)=k+1+j by omega])
   simpa using b).trans (congrArg (pTm l' D (k+1)) e)
def QpJ {D:Nat→Bool}:∀{l l':List Item} {k:Nat} {acc:Tab},l.length=l'.length→(∀j,D (k+j)=true→l[j]? =l'[j]?)→pTb l D k acc=pTb l' D k acc
 | [],[],_,_,_,_=>rfl
 | [],_::_,_,_,h,_=>by cases h
 | _::_,[],_,_,h,_=>by cases h
 | x::l,y::l',k,acc,h,hd=>by
  have e:(match D k with|true=>x.T++acc|false=>acc)=(match D k with|true=>y.T++acc|false=>acc):=by
   cases c:D k with
   | false=>rfl
   | true=>
    have a:=hd 0 c
    simp only[bQ,br] at a
    subst a;rfl
  exact (QpJ (l:=l) (l':=l') (k:=k+1) (by simpa using h) fun j d=>by
   have b:=hd (j+1) (by rwa [show k+(j+1)=k+1+j by omega])
   simpa using b).trans (congrArg (pTb l' D (k+1)) e)
def QyH {D:Nat→Bool}{l l':List Item}{s0:St}(h:l.length=l'.length)(b:∀j,D j=true→l[j]? =l'[j]?):stD l s0 D=stD l' s0 D:=by
 unfold stD
 rw[QpM h fun j a=>b j (by rwa [bJ] at a),QpJ h fun j a=>b j (by rwa [bJ] at a)]
section
variable {A:Amb}{P:Program}{deps:List (List Nat)}{s0:St}{α:Type}{Px:α→Prop}
def Qsx {id c:Nat}{oc:Oper}{l:List Oper}{Q:Exit→St→Prop}(b:α→List Item)(x0:α)(hm:P.follows .mixedOrders=true)(G:∀x,l.length=(b x).length)(Y:(QaO l.toArray deps l.length&&JM l.toArray l.length)=true)(hp:∀x,QaY (b x) deps=true)
 (hI:∀x y i,i<l.length→i=c∨inB c (deps.getD i [])=true∨(b x)[i]? =(b y)[i]?) (hc:l[c]? =some oc) (hg:oc.guard=none)
 (hC:∀x s,At (b x) deps s0 c s→DoesT A P oc s fun s'=>∃y it,Px y∧(b y)[c]? =some it∧s'=U6 s it)
 (H:∀x i o it,i≠c→(inB c (deps.getD i [])=true→Px x)→l[i]? =some o→(b x)[i]? =some it→∀s,At (b x) deps s0 i s→Acts A P l.toArray o s (U6 s it))
 (k:∀x,Px x→Q .normal (stD (b x) s0 fun _=>true)):AC A P (.region id l.toArray true) Q s0:=fun a w r=>by
 simp only[aH] at Y
 have a0:c<l.length:=(ae.1 hc).1
 have I:∀(x y:α) (D:Nat→Bool),(∀k,k<l.length→D k=true→∀j,inB j (deps.getD k [])=true→D j=true)→D c=false→stD (b x) s0 D=stD (b y) s0 D:=fun x y D d O=>by
  refine QyH (by rw[← G x,← G y]) fun j B=> ?_
  by_cases T:j<l.length
  ·rcases hI x y j T with h|h|h
   ·subst h;rw[O] at B;cases B
   ·have:=d j T B c h;rw[O] at this;cases this
   ·exact h
  ·rw[bt (by rw[← G x];omega),bt (by rw[← G y];omega)]
 refine wp_region_held (S:=fun _=>True) hm (Qhb (deps:=deps) (n:=l.length) (fun D a w=>(D c=false∧∀x,R A (stD (b x) s0 D) a w)∨(D c=true∧∃x,Px x∧R A (stD (b x) s0 D) a w)) (by simp) Y.1 Y.2 (fun D a w u C=> ?_) (fun D a w i o K d hi ho f v C Z=> ?_) _ _ a _ (by simp) ?_ ?_ ?_)
 ·rcases C with ⟨p,_⟩|⟨_,x,W,X,r⟩
  ·rw[u c a0] at p;cases p
  ·refine ⟨_,k x W,X,r.ext (fun t=>HT (fun j it B _=> ?_) rfl) fun q=>Uu (fun j it B _=> ?_) rfl⟩
   ·rw[bJ,u j (by rw[G x];exact (ae.1 B).1)]
   ·rw[bJ,u j (by rw[G x];exact (ae.1 B).1)]
 ·have F:l[i]? =some o:=by simpa using ho
  have m:∀x:α,∀k,k<(b x).length→D k=true→∀j,inB j (deps.getD k [])=true→D j=true:=fun x k hk=>d k (by rw[G x];exact hk)
  have z:∀x:α,i<(b x).length:=fun x=>by rw[← G x];exact hi
  by_cases e:i=c
  ·subst e
   rw[hc] at F;cases F
   rw[if_pos (by simp[Region.wanted,hg])]
   rcases C with ⟨_,C⟩|⟨p,_⟩
   ·refine hC x0 _ (QoD (m x0) (z x0) f v) a w K _ (C x0) fun s' M V ⟨y,it,hy,g,e⟩ L=>Z M V (.inr ⟨UQ _ _,y,hy,?_⟩)
    subst e
    rw[I x0 y D d f] at L
    exact QiE (hp y) (m y) g f L
   ·rw[f] at p;cases p
  ·have J:VS D i c=D c:=Xu D (fun h=>e h.symm)
   have E:∀k,k<l.length→VS D i k=true→∀j,inB j (deps.getD k [])=true→VS D i j=true:=fun k hk h j B=>by
    by_cases e1:k=i
    ·subst e1
     have:=v j B
     by_cases N:j=k
     ·rw[N,UQ]
     ·rw[Xu _ N];exact this
    ·rw[Xu _ e1] at h
     have:=d k hk h j B
     by_cases N:j=i
     ·rw[N,UQ]
     ·rw[Xu _ N];exact this
   rcases C with ⟨p,C⟩|⟨p,x,W,C⟩
   ·have a1:inB c (deps.getD i [])=true→False:=fun h=>by have:=v c h;rw[p] at this;cases this
    obtain ⟨it,g⟩:∃it,(b x0)[i]? =some it:=⟨_,ak (z x0)⟩
    refine H x0 i o _ e (fun h=>(a1 h).elim) F g _ (QoD (m x0) (z x0) f v) a w K _ (C x0) fun M V L=>Z M V (.inl ⟨by rw[J];exact p,fun y=> ?_⟩)
    have U:=QiE (hp x0) (m x0) g f L
    rwa [I x0 y _ E (by rw[J];exact p)] at U
   ·obtain ⟨it,g⟩:∃it,(b x)[i]? =some it:=⟨_,ak (z x)⟩
    exact H x i o _ e (fun _=>W) F g _ (QoD (m x) (z x) f v) a w K _ C fun M V L=>Z M V (.inr ⟨by rw[J];exact p,x,W,QiE (hp x) (m x) g f L⟩)
 ·refine bi (bR _ _) ?_
  simp
 ·intro j B h
  simp[bM,Array.getElem?_replicate] at h
  split at h <;> simp at h
 ·have U:=r.drew
  have e:∀j,(Array.replicate l.toArray.size false).getD j false=false:=fun j=>by
   simp only[bM,Array.getElem?_replicate]
   split <;> rfl
  refine .inl ⟨e c,fun x=> ?_⟩
  obtain ⟨X,U⟩:=U
  refine ⟨X,U.ext (fun t=> ?_) fun q=> ?_⟩
  ·show lk (pTm (b x) _ 0 s0.tm) t=lk s0.tm t
   rw[QgH e]
  ·show (pTb (b x) _ 0 s0.tab).ent q=s0.tab.ent q
   rw[QgG e]
def DoesT.mono {o:Oper}{s:St}{S b:St→Prop}(h:DoesT A P o s S)(k:∀s',S s'→b s'):DoesT A P o s b:=fun a w K Q r d=>h a w K Q r fun s' c g e f=>d s' c g (k s' e) f
def ActsE (A:Amb)(P:Program)(l0:List Oper)(plan:List Item)(deps:List (List Nat))(s0:St)(c:Nat)(X:Prop):List Oper→List Item→Nat→Prop
 | o::l,it::p,i=>(i=c∨((inB c (deps.getD i [])=true→X)→∀s,At plan deps s0 i s→Acts A P l0.toArray o s (U6 s it)))∧ActsE A P l0 plan deps s0 c X l p (i+1)
 | _,_,_=>True
def ActsE.get {a:List Item}{c:Nat}{X:Prop}{b:List Oper}:∀{l:List Oper} {p:List Item} {k:Nat},ActsE A P b a deps s0 c X l p k→∀i o it,k+i≠c→(inB c (deps.getD (k+i) [])=true→X)→l[i]? =some o→p[i]? =some it→∀s,At a deps s0 (k+i) s→Acts A P b.toArray o s (U6 s it)
 | [],_,_,_,i,o,it,_,_,h,_=>by simp at h
 | _::_,[],_,_,i,o,it,_,_,_,h=>by simp at h
 | o'::l,it'::p,k,⟨h1,h2⟩,0,o,it,hne,hX,ho,hi=>by
  simp only[bQ,br] at ho hi
  subst ho;subst hi
  exact h1.resolve_left hne hX
 | o'::l,it'::p,k,⟨h1,h2⟩,i+1,o,it,hne,hX,ho,hi=>by
  have e:k+1+i=k+(i+1):=by omega
  have:=ActsE.get h2 i o it (by rwa [e]) (by rwa [e]) (by simpa using ho) (by simpa using hi)
  rwa [e] at this
def SameE (deps:List (List Nat))(c:Nat):List Item→List Item→Nat→Prop
 | x::l,y::l',i=>((Nat.beq i c||inB c (deps.getD i []))=true∨x=y)∧SameE deps c l l' (i+1)
 | _,_,_=>True
def SameE.get {c:Nat}:∀{l l':List Item} {k:Nat},l.length=l'.length→SameE deps c l l' k→∀i,i<l.length→k+i=c∨inB c (deps.getD (k+i) [])=true∨l[i]? =l'[i]?
 | [],_,_,_,_,i,hi=>by simp at hi
 | _::_,[],_,h,_,i,hi=>by cases h
 | x::l,y::l',k,h,⟨a,h2⟩,0,hi=>by
  rcases a with a|a
  ·rw[ci] at a
   rcases a with a|a
   ·exact .inl (aZ a)
   ·exact .inr (.inl a)
  ·exact .inr (.inr (by rw[a];rfl))
 | x::l,y::l',k,h,⟨a,h2⟩,i+1,hi=>by
  have e:k+1+i=k+(i+1):=by omega
  have:=SameE.get (by simpa using h) h2 i (by simpa using hi)
  rw[e] at this
  simpa using this
def Qsy {id:Nat}{l:List Oper}{Q:Exit→St→Prop}(a:α→List Item)(d:List Nat)(c:Nat)(x0:α)(oc:Oper)(q:P.follows .mixedOrders=true)(g:∀x,QiO l (a x) (dms (rlm 1 d))=true)(j:∀x y,SameE (dms (rlm 1 d)) c (a x) (a y) 0)(m:l[c]? =some oc)(n:oc.guard=none)
 (hC:∀x s,At (a x) (dms (rlm 1 d)) s0 c s→DoesT A P oc s fun s'=>∃y it,Px y∧(a y)[c]? =some it∧s'=U6 s it)
 (H:∀x,ActsE A P l (a x) (dms (rlm 1 d)) s0 c (Px x) l (a x) 0)
 (k:∀x,Px x→Q .normal (stD (a x) s0 fun _=>true)):AC A P (.region id l.toArray true) Q s0:=by
 have b:∀x,l.length=(a x).length∧QaO l.toArray (dms (rlm 1 d)) l.length=true∧QaY (a x) (dms (rlm 1 d))=true∧JM l.toArray l.length=true:=fun x=>by
  have h:=g x
  simp only[QiO,aH] at h
  have e:=aZ h.1
  rw[← e] at h
  exact ⟨e,h.2.1.1,h.2.1.2,h.2.2⟩
 refine Qsx (deps:=dms (rlm 1 d)) (c:=c) (oc:=oc) a x0 q (fun x=>(b x).1) (by rw[(b x0).2.1,(b x0).2.2.2];rfl) (fun x=>(b x).2.2.1) (fun x y i p=> ?_) m n hC (fun x i o it r u t f s v=> ?_) k
 ·have:=(j x y).get (by rw[← (b x).1,← (b y).1]) i (by rw[← (b x).1];exact p)
  rwa [bJ] at this
 ·have e:(0:Nat)+i=i:=bJ i
  exact (H x).get i o it (by rwa [e]) (by rwa [e]) t f s (by rwa [e])
end
def Qqx {A:Amb}{P:Program}{s:St}{x:Operand}{T ty:TypeId}{c:String}{j:Array Edge}{g:Option (Nat×Bool)}{d q y n:Nat}{E E':TypeId}{ls:List LV}{v:List (Nat×LV)}(u:Evl A s x (.ref q))(i:s.tab.ent q=some (.obx E y n ls v))(t:Nat.blt d A.n=true)(f:P.underlying T=some (.slice E')):
 Does A P ⟨some d,.call ⟨.builtin .len,#[x],#[T]⟩,ty,c,j,g⟩ s (s.put d (lf (dI n))):=
 Qk rfl t fun e a w r=>by
  have l:a.eval x=e.h q:=u e a w r ⟨_,i⟩
  obtain ⟨_,z,b,k,fps,m,_,_,B,o,_⟩:=r.cx.en q _ i
  have p:P.elem T=E':=by simp[Program.elem,f]
  refine ⟨.int .i64 n,?_,_,rfl,YR (by unfold maxLen at o;omega)⟩
  simp only[execOp,resolve,invoke,builtin]
  simp[aw,l,m,run_len_slice w T ty _ n b (by rw[p];exact f),goInt]
def ActsH.one {A:Amb}{P:Program}{b:List Oper}{a:List Item}{deps:List (List Nat)}{s0:St}{o:Oper}{it:Item}{i:Nat}(h:ActsH A P b a deps s0 [o] [it] i):∀s,At a deps s0 i s→Acts A P b.toArray o s (U6 s it):=h.1
end Go.Proofs.YtjfpbcmfbnnooaaGreat
