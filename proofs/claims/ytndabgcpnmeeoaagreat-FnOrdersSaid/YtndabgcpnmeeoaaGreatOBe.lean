/- Walks over abstract states: what is enabled together, the reference. -/
import Derived.Test.YtndabgcpnmeeoaaGreatOCa
import Derived.Test.YtndabgcpnmeeoaaGreatOWp
import Derived.Test.YtndabgcpnmeeoaaGreatOUj
import Derived.Test.YtndabgcpnmeeoaaGreatOVa
import Derived.Test.YtndabgcpnmeeoaaGreatOSo
import Derived.Test.YtndabgcpnmeeoaaGreatOAv
set_option linter.unusedSimpArgs false
set_option linter.unusedVariables false
set_option linter.unusedSectionVars false
namespace Go.Proofs.YtndabgcpnmeeoaaGreat
open Go.RowKit
set_option maxRecDepth 100000
set_option maxHeartbeats 4000000
theorem QbK {α:Type _}[DecidableEq α]{lt:α→α→Bool}(x:α):∀l:List α,(Zr lt x l).length≤l.length+1
 | []=>aL _
 | y :: l=>by
  unfold Zr
  have:=QbK (lt:=lt) x l
  split
  ·simp only[aq]; omega
  ·split <;> simp
theorem QnY {α:Type _}[DecidableEq α]{lt:α→α→Bool}(l:List α):(ofG lt l).length≤l.length:=by
 have:∀(l s:List α),(l.foldl (fun s x=>Zr lt x s) s).length≤s.length+l.length:=fun l=>by
  induction l with
  | nil=>intro s; simp
  | cons x l a=>intro s; have b:=a (Zr lt x s); have c:=QbK (lt:=lt) x s; rw[bh,aq]; omega
 simpa [ofG] using this l []
def shV (n:Yh)(t u:Int):Bool:=((n.2[t.toNat]?).getD ([],[])).1.any fun z=>decide (z∈((n.2[u.toNat]?).getD ([],[])).1)
def Uq (n:Yh)(t:Int)(l:List Int):List (List Int):=(l.filter fun u=>decide (t < u)&& !shV n t u).map fun u=>[t,u]
def Kz (n:Yh)(t:Int)(l:List Int):List (List Int):=(l.filter fun u=> !shV n t u).map fun u=>[t,u]
def KL (n:Yh)(on l:List Int):List (List Int):=l.flatMap fun t=>Uq n t on
def Qb3 (n:Yh)(on:List Int)(k:Nat):List (List Int):=(List.range k).flatMap fun i=>Kz n ((on[i]?).getD 0) (on.drop (i+1))
def ZP (n:Yh)(ms:List ByteArray):List (List Int):=ms.flatMap fun mk=>KL n (QO n mk) (QO n mk)
section
variable {n:Yh}{k f i j:Nat}{mk:ByteArray}{t u:Int}{ts on l:List Int}{st:RS}{s:Qy}{xt xu:Qt}{ms:List ByteArray}{as_ bs:List (List Int)}
theorem QrP (c:Xz mk n.1)(h:∀m∈st.1,Xz m n.1):∀m∈(goT n k mk ts st).1.1,Xz m n.1:=by
 induction ts generalizing st with
 | nil=>rw[goT]; exact h
 | cons t ts a=>
  rw[goT]
  split
  ·exact h
  ·rename_i b
   split
   ·exact a (st:=(st.1,_,st.2.2)) h
   ·split
    ·exact h
    ·exact a (st:=(st.1++[_],_,_)) (Qa7 h (WV c rfl (by revert b; cases (Zw n mk t).2 <;> simp)))
theorem QrL (h:∀m∈st.1,Xz m n.1):∀m∈(goK n f k st).1.1,Xz m n.1:=by
 induction f generalizing k st with
 | zero=>rw[goK]; exact h
 | succ f c=>
  rw[goK]
  cases b:st.1[k]? with
  | none=>exact h
  | some mk=>
   have a:=QrP (k:=k) (ts:=QO n mk) (h mk (ai b)) h
   show∀m∈(if (goT n k mk (QO n mk) st).2.2.2=true then goK n f (k+1) (goT n k mk (QO n mk) st).1 else goT n k mk (QO n mk) st).1.1,Xz m n.1
   split
   ·exact c a
   ·exact a
theorem JQ [∀s,Decidable (StgOk s)]:∀m∈(Qb s).1.1,∀t∈s.1.2,UT m t.1∧UT m t.2:=fun m a=>by
 unfold Qb at a
 split at a
 ·rename_i b
  refine Qfs b.1.net ?_
  exact QrL (n:=s.1) (k:=0) (f:=301) (st:=([s.2.2.2],[],[((0:Int),(0:Int),(0:Int))])) (fun m a=>by rw[aC.1 a]; exact b.1.bits) m a
 ·cases a
theorem Wu [∀s,Decidable (StgOk s)]:(Qb s).1.1.length≤300:=by
 cases h:(Qb s).2 with
 | true=>exact (Zs h).2.2.1
 | false=>
  unfold Qb at h ⊢
  split
  ·rename_i a; rw[if_pos a] at h; cases h
  ·exact aP _
theorem Ya [∀s,Decidable (StgOk s)](h:(Qb s).2=true):s.1.2.length≤24:=(Zs h).1.net.2.1
theorem QhX [∀s,Decidable (StgOk s)](h:(Qb s).2=false):(Qb s).1.1=[]:=by
 unfold Qb at h ⊢
 split
 ·rename_i a; rw[if_pos a] at h; cases h
 ·rfl
theorem QcJ (a:n.2[t.toNat]? =some xt)(b:n.2[u.toNat]? =some xu):shV n t u=xt.1.any fun z=>decide (z∈xu.1):=by unfold shV; rw[a,b]; rfl
theorem QfN (d:on[k]? =some u)(a:n.2[t.toNat]? =some xt)(b:n.2[u.toNat]? =some xu)(c:t < u)(h:(xt.1.any fun z=>decide (z∈xu.1))=false):Uq n t (on.take k)++[[t,u]]=Uq n t (on.take (k+1)):=by
 unfold Uq
 rw[Qs d,bO,bE]
 rw[← QcJ a b] at h
 simp[c,h]
theorem Qir (b:on[k]? =some u)(a:¬t < u):Uq n t (on.take k)=Uq n t (on.take (k+1)):=by
 unfold Uq
 rw[Qs b,bO,bE]
 simp[a]
theorem Qis (c:on[k]? =some u)(a:n.2[t.toNat]? =some xt)(b:n.2[u.toNat]? =some xu)(h:(xt.1.any fun z=>decide (z∈xu.1))=true):Uq n t (on.take k)=Uq n t (on.take (k+1)):=by
 unfold Uq
 rw[Qs c,bO,bE]
 rw[← QcJ a b] at h
 simp[h]
theorem Qkf:(Uq n t l).length≤l.length:=by unfold Uq; rw[aB]; exact cP ..
theorem Qkd:(Kz n t l).length≤l.length:=by unfold Kz; rw[aB]; exact cP ..
theorem Hz {α:Type}{f:α→List (List Int)}{m:Nat}:∀{l:List α},(∀x∈l,(f x).length≤m)→(l.flatMap f).length≤m*l.length
 | [],_=>by simp
 | x :: l,h=>by
  rw[dE,ae,aq,Nat.mul_add]
  have b:=h x (aw ..)
  have c:=Hz (f:=f) (l:=l) fun y a=>h y (ax _ a)
  omega
theorem Qjj (h:on.length≤24):(KL n on l).length≤24*l.length:=Hz fun _ _=>bn Qkf h
theorem QfZ (h:n.2.length≤24):(ZP n ms).length≤576*ms.length:=Hz fun mk _=>by
 have a:=Ub n mk
 have b:=Qjj (n:=n) (on:=QO n mk) (l:=QO n mk) (by omega)
 omega
theorem QgA (a:l[k]? =some t):KL n on (l.take k)++Uq n t on=KL n on (l.take (k+1)):=by unfold KL; rw[Qs a,cK]; simp
theorem Qhy (a:ms[k]? =some mk):ZP n (ms.take k)++KL n (QO n mk) (QO n mk)=ZP n (ms.take (k+1)):=by unfold ZP; rw[Qs a,cK]; simp
theorem Qta (a:ms[k]? =some mk)(hi:(QO n mk).length≤i):ofG ltP (ZP n (ms.take k)++KL n (QO n mk) ((QO n mk).take i))=ofG ltP (ZP n (ms.take (k+1))):=by rw[aJ hi,Qhy a]
theorem QqS (b:on[i]? =some t)(a:on.length≤j):ofG ltP (as_++KL n on (on.take i)++Uq n t (on.take j))=ofG ltP (as_++KL n on (on.take (i+1))):=by rw[aJ a,aK,QgA b]
end
section
variable {vs vs2:List Hdr}{gf gf2 gj:Hdr→List Int}{l:List (List Int)}{m:Int}{x:List Int}
theorem QuH (a:vs.map gf=l)(h0:0≤m)(d:∀j:Nat,(j:Int) < m→∀y,vs[j]? =some y→ltP (gf y) x=true){y:Hdr}(h:vs[m.toNat]? =some y)(e:gf y=x):vs.map gf=Zr ltP x l:=by
 subst a
 refine (HS (k:=m.toNat) (fun j o z b=> ?_) (by rw[bo,h,dl,e]) (HG x)).symm
 rw[bo] at b
 obtain ⟨g,c,rfl⟩:=bP.1 b
 exact d j (by omega) g c
theorem Qoc (d:vs.map gf=l)(o:vs2.map gf2=[x])(g:∀v∈vs,gj v=gf v)(q:∀v∈vs2,gj v=gf2 v)(h0:0≤m)(b:m≤(vs.length:Int))(p:∀j:Nat,(j:Int) < m→∀y,vs[j]? =some y→ltP (gf y) x=true)
 (h:∀y,vs[m.toNat]? =some y→ltP (gf y) x=false∧gf y≠x):(((vs.take m.toNat)++vs2)++vs.drop m.toNat).map gj=Zr ltP x l:=by
 subst d
 rw[bE,bE,cJ (l:=vs.take m.toNat) (fun v c=>g v (List.mem_of_mem_take c)),cJ (l:=vs.drop m.toNat) (fun v c=>g v (List.mem_of_mem_drop c)),cJ q,o,List.map_take,List.map_drop,aK]
 refine (QdV (k:=m.toNat) (fun j r z a=> ?_) (by rw[aB]; omega) fun z a=> ?_).symm
 ·rw[bo] at a
  obtain ⟨e,b,rfl⟩:=bP.1 a
  exact p j (by omega) e b
 ·rw[bo] at a
  obtain ⟨e,b,rfl⟩:=bP.1 a
  exact h e b
theorem Qhi:∃l:List Hdr,l.Perm (((vs.take m.toNat)++vs2)++vs.drop m.toNat)∧l.Sublist (vs++vs2):=⟨vs++vs2,by
 have h:(vs.take m.toNat++vs.drop m.toNat++vs2).Perm (vs.take m.toNat++vs2++vs.drop m.toNat):=by
  rw[aK,aK]
  exact List.Perm.append_left _ List.perm_append_comm
 rwa [bR] at h,cI _⟩
theorem QuK (h0:0≤m)(a:m≤(vs.length:Int)):(([]++(vs.take (0+m.toNat)).drop 0)++vs2)++([]++(vs.take (m.toNat+(vs.length - m.toNat))).drop m.toNat)=((vs.take m.toNat)++vs2)++vs.drop m.toNat:=by
 rw[show m.toNat+(vs.length - m.toNat)=vs.length by omega,bM]
 simp
end
theorem Jq (a:Int)(b:Int):FC Tryz.prog 225 [(false,[dI a]),(false,[dI b])] [] 0 (Za (lI (min a b))):=by
 refine Qn Tryz.func225 rfl rfl Tryz.ntmps225 fun o c h d p g e=> ?_
 refine acI 0 fun _=> ?_
 refine acI 1 fun _=> ?_
 refine w9 ?_
 refine cd_ (fun _ _=> ?_) fun _ _=> ?_
 refine w5 ?_
 refine Qe<|fqI c ?_
 omega
 refine w4 ?_
 refine Qe<|fqI c ?_
 omega
theorem Uk (a:Int)(b:Int):FC Tryz.prog 251 [(false,[dI a]),(false,[dI b])] [] 0 (Za (lI (max a b))):=by
 refine Qn Tryz.func251 rfl rfl Tryz.ntmps251 fun o c h d p g e=> ?_
 refine acI 0 fun _=> ?_
 refine acI 1 fun _=> ?_
 refine w9 ?_
 refine cd_ (fun _ _=> ?_) fun _ _=> ?_
 refine w5 ?_
 refine Qe<|fqI c ?_
 omega
 refine w4 ?_
 refine Qe<|fqI c ?_
 omega
theorem Qe8 (a:List Int)(b:List Int):FC Tryz.prog 256 [(false,[.dat Qm a]),(false,[.dat Qm b])] [] 0 (Za (lB (a.any fun z=>decide (z∈b)))):=by
 refine Qn Tryz.func256 rfl rfl Tryz.ntmps256 fun D q C v E A w=> ?_
 refine w6 ?_
 refine alL 7 fun _=> ?_
 refine w4 ?_
 refine lpK a.length (fun k=>∀j,j < k→∀y,a[j]? =some y→¬y∈b) (fun k=>⟨[(1,lf (.dat Qm b)),(7,lf (.dat Qm a)),(8,lI (a.length:Int)),(9,lI (k:Int))],[]⟩) ((fun j p=>absurd p (bi j))) ?_ fun k _ h=> ?_
 exact wo []
 refine w4 ?_
 cases c:(decide ((k:Int) < (a.length:Int)))
 have d:=aa c
 refine w6 ?_
 refine Qe<|fqB q ?_
 first | exact (cC.2 fun z B=>by obtain ⟨j,p⟩:=aO.1 B; rw[aS]; exact h j (by have:=(ah.1 p).1; omega) z p).symm
 have d:=ab c
 refine w5 ?_
 obtain ⟨r,o⟩:=gx a k
 refine w2 ?_
 refine alI 12 fun _=> ?_
 refine w5 ?_
 refine lc (dK (Vd b r) KX) ?_
 refine w_ ?_
 cases e:(decide (r∈b))
 have g:=aa e
 refine w6 ?_
 refine Qf ?_
 refine lK_ ((Y6 h o (aa ‹_›))) ?_
 exact wo []
 have g:=ab e
 refine w4 ?_
 refine Qe<|fqB q ?_
 exact (bW.2 ⟨_,ai o,by assumption⟩).symm
theorem Qwm {a b:List Int}{k:Nat}{x y:Int}(e:∀j,j < k→a[j]? =b[j]?)(c:a[k]? =some x)(hb:b[k]? =some y)(h:x≠y):decide (x < y)=ltP a b:=by
 induction k generalizing a b with
 | zero=>
  cases a with
  | nil=>cases c
  | cons p a=>
   cases b with
   | nil=>cases hb
   | cons q b=>
    cases c; cases hb
    unfold ltP
    by_cases d:x < y
    ·simp[d]
    ·rw[if_neg d,if_pos (by omega),aQ d]
 | succ k o=>
  cases a with
  | nil=>cases c
  | cons p a=>
   cases b with
   | nil=>cases hb
   | cons q b=>
    have g:=e 0 (Nat.succ_pos _)
    cases g
    unfold ltP
    rw[if_neg (by omega),if_neg (by omega)]
    exact o (fun j r=>e (j+1) (by omega)) c hb
theorem QnO {a b:List Int}{k:Nat}(d:∀j,j < k→a[j]? =b[j]?)(h:a.length≤k∨b.length≤k)(c:k≤a.length∧k≤b.length):decide ((a.length:Int) < (b.length:Int))=ltP a b:=by
 induction k generalizing a b with
 | zero=>
  rcases h with h | h
  ·cases a with
   | nil=>cases b <;> simp[ltP]
   | cons p a=>simp at h
  ·cases b with
   | nil=>cases a <;> simp[ltP]; omega
   | cons p a=>simp at h
 | succ k g=>
  cases a with
  | nil=>simp at c
  | cons p a=>
   cases b with
   | nil=>simp at c
   | cons q b=>
    have e:=d 0 (Nat.succ_pos _)
    cases e
    unfold ltP
    rw[if_neg (by omega),if_neg (by omega),← g (a:=a) (b:=b) (fun j o=>d (j+1) (by omega)) (by simp at h; omega) (by simp at c; omega)]
    simp
theorem Qdo (a:List Int)(b:List Int):FC Tryz.prog 380 [(false,[.dat Qm a]),(false,[.dat Qm b])] [] 0 (Za (lB (ltP a b))):=by
 refine Qn Tryz.func380 rfl rfl Tryz.ntmps380 fun J w I D K F E=> ?_
 refine w8 ?_
 refine QH (fun z A=>∃(m:Int),z=((a.length:Int) - m).toNat∧(0≤m∧m≤(a.length:Int)∧m≤(b.length:Int))∧(∀j,j < m.toNat→a[j]? =b[j]?)∧A=⟨[(0,lf (.dat Qm a)),(1,lf (.dat Qm b)),(5,lI m)],[]⟩) ⟨0,rfl,(by omega),(fun j G=>by omega),rfl⟩ ?_ ?_
 exact wo []
 rintro z A ⟨m,H,L,v,rfl⟩
 refine w4 ?_
 refine alL 7 fun _=> ?_
 refine w3 ?_
 cases g:(decide (m < (a.length:Int)))
 have h:=aa g
 refine w11 ?_
 refine alL 36 fun _=> ?_
 refine w2 ?_
 refine alL 38 fun _=> ?_
 refine w4 ?_
 refine Qe<|fqB w ?_
 exact QnO v (by omega) (by omega)
 have h:=ab g
 refine w2 ?_
 refine alL 12 fun _=> ?_
 refine w4 ?_
 cases o:(decide (m < (b.length:Int)))
 have p:=aa o
 refine w5 ?_
 refine alL 36 fun _=> ?_
 refine w2 ?_
 refine alL 38 fun _=> ?_
 refine w4 ?_
 refine Qe<|fqB w ?_
 exact QnO v (by omega) (by omega)
 have p:=ab o
 refine w4 ?_
 obtain ⟨x,q⟩:=gx a ((m).toNat)
 have B:=q
 obtain ⟨y,r⟩:=gx b ((m).toNat)
 have C:=r
 apply dW (i9 18 _ _ _ _ _ _ _ _ _ []) [0,1,0,0,15,31,15,15,0]
 exact y9
 cases c:(!decide (x=y))
 have d:(x=y):=QY c
 refine w7 ?_
 refine Qf<|ZF ⟨(m+1),rfl,(by omega),(fun j G=>by by_cases e:j=m.toNat <;> first | (subst e; rw[B,C]; simp_all; done) | exact v j (by omega)),rfl⟩ (by omega) ?_
 exact wo []
 have d:¬(x=y):=Zb c
 refine w_ ?_
 apply dW (i9 27 _ _ _ _ _ _ _ _ _ [io 4 _]) [0,1,0,0,15,31,15,15,0,0]
 exact y10
 refine Qe<|fqB w ?_
 exact Qwm v B C (by simp_all)
theorem Qgi (l:List (List Int))(a:Int)(b:Int)(T:l.length≤1000000):FC Tryz.prog 257 [(false,[.ref 0]),(false,[dI a]),(false,[dI b])] [ar 0 123 Qm l] 0 (XB 123 Qm (Zr ltP [min a b,max a b] l)):=by
 refine Qn Tryz.func257 rfl rfl Tryz.ntmps257 fun R D P I S K J=> ?_
 refine acI 1 fun _=> ?_
 refine acI 2 fun _=> ?_
 refine Yg<|AC.poolO (q:=0) (e:= .int) 1 rfl (Fresh.of rfl) (nlr rfl) fun vs gf o=> ?_
 have O:vs.length=l.length:=by rw[← o,aB]
 refine w6 ?_
 refine lc (dK (Jq a b) QeH) ?_
 refine w2 ?_
 refine lc (dK (Uk a b) QaA) ?_
 refine lc (dBs 2 (e:= .int) Zq) ?_
 refine w7 ?_
 refine QH (fun G H=>∃(m:Int),G=((vs.length:Int) - m).toNat∧(0≤m∧m≤(vs.length:Int))∧(∀j:Nat,(j:Int) < m→∀y,vs[j]? =some y→ltP (gf y) [min a b,max a b]=true)∧H=⟨[(0,lR 0),(6,lf (.val (.slice none 0 0))),(7,lR 2),(8,lI m)],[ar 0 123 .vl vs,(1,some (.pl true Qm vs gf)),ar 2 3 .int ([min a b,max a b])]⟩) ⟨0,rfl,(by omega),(fun j M=>by omega),rfl⟩ ?_ ?_
 exact wo []
 rintro G H ⟨m,N,U,C,rfl⟩
 refine w7 ?_
 cases g:(decide (m < (vs.length:Int)))
 have B:=aa g
 refine w16 ?_
 refine w2 ?_
 have E:(decide (m < (vs.length:Int)))=false:=g
 try rw[E]
 refine w11 ?_
 refine lc (dBs 3 (e:= .vl) X0) ?_
 refine w2 ?_
 refine lc (Zz (e:= .vl) (a:=(m).toNat) (b:=vs.length - (m).toNat) (l:=(some m)) (h:=none) (Qa rfl) rfl (by exact (Qa rfl)) (by exact trivial) ZW QX rfl (by first | (simp only[ak,aj]; omega) | omega | (simp only[ak,aj,ae,ao,aF]; omega)) (by first | (simp only[ak,aj]; omega) | omega | (simp only[ak,aj,ae,ao,aF]; omega)) (by first | (simp only[ak,aj]; omega) | omega | (simp only[ak,aj,ae,ao,aF]; omega)) (by first | rfl | simp) (by first | rfl | simp))<|lc (QI 4 (Qa rfl) rfl (YS (e:= .vl) (Qa rfl) rfl (by omega)) rfl ZW Ws (by first | omega | (simp only[ae,aB,ao,aq,az]; omega) | (simp only[ae,aW,ao,aq,az]; omega)) rfl (Fresh.of rfl) (nlr rfl)) ?_
 refine w3 ?_
 refine lc (dBs 5 (e:= .vl) X0) ?_
 refine w2 ?_
 refine lc (Zz (e:= .vl) (a:=0) (b:=(m).toNat) (l:=none) (h:=(some m)) (Qa rfl) rfl (by exact trivial) (by exact (Qa rfl)) ZW QX rfl (by first | (simp only[ak,aj]; omega) | omega | (simp only[ak,aj,ae,ao,aF]; omega)) (by first | (simp only[ak,aj]; omega) | omega | (simp only[ak,aj,ae,ao,aF]; omega)) (by first | (simp only[ak,aj]; omega) | omega | (simp only[ak,aj,ae,ao,aF]; omega)) (by first | rfl | simp) (by first | rfl | simp))<|lc (QI 6 (Qa rfl) rfl (YS (e:= .vl) (Qa rfl) rfl (by omega)) rfl ZW Ws (by first | omega | (simp only[ae,aB,ao,aq,az]; omega) | (simp only[ae,aW,ao,aq,az]; omega)) rfl (Fresh.of rfl) (nlr rfl)) ?_
 refine w_ ?_
 refine lc (dBs 7 (e:=Qm) X0 (hab:=by exact ⟨_,_,_,_,rfl,(.inl ⟨_,rfl,rfl,rfl⟩),⟨rfl,rfl⟩,rfl⟩)) ?_
 refine AL.poolO (q:=7) (e:= .int) 9 rfl (Fresh.of rfl) (nlr rfl) fun vs2 gf2 c=> ?_
 have d:vs2.length=([[min a b,max a b]]).length:=by rw[← c,aB]
 simp only[aq,az] at d
 refine AL.poolJ (p:=1) (p2:=9) rfl rfl rfl fun gj r v=> ?_
 refine lc (dA 8 Ws) ?_
 refine w_ ?_
 refine lc (QI 10 (Qa rfl) rfl (U1 (Qa rfl) rfl) rfl ZW Ws (by first | omega | (simp only[ae,aB,ao,aq,az]; omega) | (simp only[ae,aW,ao,aq,az]; omega)) rfl (Fresh.of rfl) (nlr rfl)) ?_
 refine w2 ?_
 refine AC.wk (VW (q:=10) (p:=1) (zs:=((([])++((vs.take (0+((m).toNat))).drop 0))++vs2)++(([])++((vs.take (((m).toNat)+(vs.length - (m).toNat))).drop ((m).toNat)))) rfl rfl (by (rw[QuK (by omega) (by omega)]; exact Qhi)))<|Qe<|fo_ D ?_
 (rw[QuK (by omega) (by omega)]; exact Qoc o c r v (by omega) (by omega) C (fun z F=>by simp_all))
 have B:=ab g
 refine w3 ?_
 obtain ⟨y,w⟩:=gx vs ((m).toNat)
 have Q:=w
 refine w2 ?_
 refine lgy rfl rfl (YQ (Qdo (gf y) ([min a b,max a b])) Ql4 ⟨_,_,rfl,(Hl (p:=1) (Qa rfl) rfl (ai w)),⟨_,_,rfl,(KI (Qa rfl) rfl),rfl⟩⟩ rfl rfl rfl) ?_
 refine w2 ?_
 cases L:(ltP (gf y) ([min a b,max a b]))
 refine w10 ?_
 have A:(decide (m < (vs.length:Int)))=true:=g
 try rw[A]
 refine w5 ?_
 refine lgy rfl rfl (YQ (YK (gf y) ([min a b,max a b])) WR ⟨_,_,rfl,(Hl (p:=1) (Qa rfl) rfl (ai w)),⟨_,_,rfl,(KI (Qa rfl) rfl),rfl⟩⟩ rfl rfl rfl) ?_
 refine w2 ?_
 refine cd_ (fun _ _=> ?_) fun _ _=> ?_
 refine w2 ?_
 refine lc (dBs 11 (e:= .vl) X0) ?_
 refine w2 ?_
 refine lc (Zz (e:= .vl) (a:=(m).toNat) (b:=vs.length - (m).toNat) (l:=(some m)) (h:=none) (Qa rfl) rfl (by exact (Qa rfl)) (by exact trivial) ZW QX rfl (by first | (simp only[ak,aj]; omega) | omega | (simp only[ak,aj,ae,ao,aF]; omega)) (by first | (simp only[ak,aj]; omega) | omega | (simp only[ak,aj,ae,ao,aF]; omega)) (by first | (simp only[ak,aj]; omega) | omega | (simp only[ak,aj,ae,ao,aF]; omega)) (by first | rfl | simp) (by first | rfl | simp))<|lc (QI 12 (Qa rfl) rfl (YS (e:= .vl) (Qa rfl) rfl (by omega)) rfl ZW Ws (by first | omega | (simp only[ae,aB,ao,aq,az]; omega) | (simp only[ae,aW,ao,aq,az]; omega)) rfl (Fresh.of rfl) (nlr rfl)) ?_
 refine w3 ?_
 refine lc (dBs 13 (e:= .vl) X0) ?_
 refine w2 ?_
 refine lc (Zz (e:= .vl) (a:=0) (b:=(m).toNat) (l:=none) (h:=(some m)) (Qa rfl) rfl (by exact trivial) (by exact (Qa rfl)) ZW QX rfl (by first | (simp only[ak,aj]; omega) | omega | (simp only[ak,aj,ae,ao,aF]; omega)) (by first | (simp only[ak,aj]; omega) | omega | (simp only[ak,aj,ae,ao,aF]; omega)) (by first | (simp only[ak,aj]; omega) | omega | (simp only[ak,aj,ae,ao,aF]; omega)) (by first | rfl | simp) (by first | rfl | simp))<|lc (QI 14 (Qa rfl) rfl (YS (e:= .vl) (Qa rfl) rfl (by omega)) rfl ZW Ws (by first | omega | (simp only[ae,aB,ao,aq,az]; omega) | (simp only[ae,aW,ao,aq,az]; omega)) rfl (Fresh.of rfl) (nlr rfl)) ?_
 refine w_ ?_
 refine lc (dBs 15 (e:=Qm) X0 (hab:=by exact ⟨_,_,_,_,rfl,(.inl ⟨_,rfl,rfl,rfl⟩),⟨rfl,rfl⟩,rfl⟩)) ?_
 refine AL.poolO (q:=15) (e:= .int) 17 rfl (Fresh.of rfl) (nlr rfl) fun vs2 gf2 c=> ?_
 have d:vs2.length=([[min a b,max a b]]).length:=by rw[← c,aB]
 simp only[aq,az] at d
 refine AL.poolJ (p:=1) (p2:=17) rfl rfl rfl fun gj r v=> ?_
 refine lc (dA 16 Ws) ?_
 refine w_ ?_
 refine lc (QI 18 (Qa rfl) rfl (U1 (Qa rfl) rfl) rfl ZW Ws (by first | omega | (simp only[ae,aB,ao,aq,az]; omega) | (simp only[ae,aW,ao,aq,az]; omega)) rfl (Fresh.of rfl) (nlr rfl)) ?_
 refine w2 ?_
 refine AC.wk (VW (q:=18) (p:=1) (zs:=((([])++((vs.take (0+((m).toNat))).drop 0))++vs2)++(([])++((vs.take (((m).toNat)+(vs.length - (m).toNat))).drop ((m).toNat)))) rfl rfl (by (rw[QuK (by omega) (by omega)]; exact Qhi)))<|Qe<|fo_ D ?_
 (rw[QuK (by omega) (by omega)]; exact Qoc o c r v (by omega) (by omega) C (fun z F=>by simp_all))
 refine w4 ?_
 refine AC.wk (VW (q:=0) (p:=1) (zs:=vs) rfl rfl (by exact ⟨_,dh _,cI _⟩))<|Qe<|fo_ D ?_
 exact QuH o (by omega) C Q (by simp_all)
 refine w7 ?_
 refine Qf<|ZF ⟨(m+1),rfl,(by omega),(fun j M z F=>by by_cases e:j=m.toNat <;> first | (subst e; simp_all; done) | exact C j (by omega) z F),rfl⟩ (by omega) ?_
 exact wo []
end Go.Proofs.YtndabgcpnmeeoaaGreat
namespace Go.Proofs.YtndabgcpnmeeoaaGreat
open Go.RowKit
set_option maxRecDepth 100000
set_option maxHeartbeats 4000000
def spS (s:ByteArray)(b:UInt8):Nat→List ByteArray×Int
 | 0=>([],0)
 | i+1=>if s[i]? =some b then ((spS s b i).1++[s.extract (spS s b i).2.toNat i],(i:Int)+1) else spS s b i
def ZJ (s:ByteArray)(b:UInt8):List ByteArray:=(spS s b s.size).1++[s.extract (spS s b s.size).2.toNat s.size]
section
variable {s:ByteArray}{b c:UInt8}{i:Nat}
theorem QuR (h:s[i]? =some c)(e:c=b):((spS s b i).1++[s.extract (spS s b i).2.toNat i],(i:Int)+1)=spS s b (i+1):=by rw[spS,if_pos (by rw[h,e])]
theorem QwN (h:s[i]? =some c)(e:¬c=b):spS s b i=spS s b (i+1):=by rw[spS,if_neg (by rw[h]; simpa using e)]
theorem Qon:0≤(spS s b i).2∧(spS s b i).2≤(i:Int)∧(spS s b i).1.length≤i:=by
 induction i with
 | zero=>exact ⟨dU _,dU _,aL _⟩
 | succ i d=>
  rw[spS]
  split
  ·refine ⟨by show (0:Int)≤(i:Int)+1; omega,by show ((i:Int)+1)≤((i+1:Nat):Int); omega, ?_⟩
   rw[ae,aq,az]; omega
  ·obtain ⟨a,e,f⟩:=d; exact ⟨a,by omega,by omega⟩
theorem QpX:(ZJ s b).length≤s.size+1:=by
 unfold ZJ
 have:=Qon (s:=s) (b:=b) (i:=s.size)
 rw[ae,aq,az]; omega
end
abbrev DTr:=List Int×List Int
abbrev DB:=Qy×List ByteArray×List ByteArray
def b0 (t:ByteArray):UInt8:=(t[0]?).getD 0
def bZ (t:ByteArray):UInt8:=(t[t.size - 1]?).getD 0
def H6 (l:List ByteArray)(x:ByteArray):Bool:=l.any fun y=>decide (y=x)
def atB (l:List ByteArray)(x:ByteArray):Int:=if H6 l x=true then ZO (fun y=>decide (y=x)) l else (l.length:Int)
def plV (b:DB)(name:ByteArray):DB:=if H6 b.2.1 name=true then b else (((b.1.1.1+1,b.1.1.2),b.1.2.1,b.1.2.2.1,b.1.2.2.2++(⟨#[48]⟩:ByteArray)),b.2.1++[name],b.2.2)
def plI (b:DB)(name:ByteArray):Int:=atB b.2.1 name
def QbE (word:ByteArray):ByteArray:=((ZJ word 47)[0]?).getD ByteArray.empty
def QmB (G:List QB)(word:ByteArray):Q9:=if b0 (QbE word)=126 then (-1,false) else (ZO (fun g=>decide (g.1=(QbE word).extract 0 ((QbE word).size - 1))) G,decide (bZ (QbE word)=43))
def Zv (b:DB)(word:ByteArray):DB:=if H6 b.2.2 word=true then b else (((b.1.1.1,b.1.1.2++[([],[])]),b.1.2.1,b.1.2.2.1++[QmB b.1.2.1 word],b.1.2.2.2),b.2.1,b.2.2++[word])
def trI (b:DB)(word:ByteArray):Int:=atB b.2.2 word
def H1 (text:ByteArray):ByteArray:=if b0 text=42 then text.extract 1 text.size else text
def XO (text:ByteArray)(k:Nat):ByteArray:=((ZJ (H1 text) 62)[k]?).getD ByteArray.empty
def QbD (text:ByteArray):ByteArray:=if b0 (XO text 1)=95 then XO text 1 else if b0 (XO text 0)=95 then XO text 0 else H1 text
def QfJ (T:List DTr)(t p:Int):List DTr:=T.modify t.toNat fun x=>(x.1,Zr ltI p x.2)
def QfK (T:List DTr)(t p:Int):List DTr:=T.modify t.toNat fun x=>(Zr ltI p x.1,x.2)
def ar1 (p:Int)(b:DB)(text:ByteArray):DB:=if b0 (XO text 0)=95 then b else
 let c:=Zv b (XO text 0); (((c.1.1.1,QfJ c.1.1.2 (trI b (XO text 0)) p),c.1.2.1,c.1.2.2.1,c.1.2.2.2),c.2.1,c.2.2)
def ar2 (p:Int)(b:DB)(text:ByteArray):DB:=if b0 (XO text 1)=95 then b else
 let c:=Zv b (XO text 1); (((c.1.1.1,QfK c.1.1.2 (trI b (XO text 1)) p),c.1.2.1,c.1.2.2.1,c.1.2.2.2),c.2.1,c.2.2)
def QsC (s:ByteArray)(p:Int):ByteArray:=s.extract 0 p.toNat++(⟨#[49]⟩:ByteArray)++s.extract (p+1).toNat s.size
def arV (b:DB)(text:ByteArray):DB:=
 let p:=plI b (QbD text)
 let c:=ar2 p (ar1 p (plV b (QbD text)) text) text
 if b0 text=42 then ((c.1.1,c.1.2.1,c.1.2.2.1,QsC c.1.2.2.2 p),c.2.1,c.2.2) else c
def sgN (names:ByteArray)(kd:Int)(i:Nat):List QB:=(List.range i).map fun j=>(names.extract j (j+1),kd)
def sgA:List ByteArray→Int→List QB
 | [],_=>[]
 | n :: l,k=>sgN n k n.size++sgA l (k+1)
def buG (ins outs inner:ByteArray):List QB:=sgA [ins,outs,inner] 1
def buB (G:List QB)(arcs:ByteArray):DB:=(ZJ arcs 32).foldl arV (((0,[]),G,[],ByteArray.empty),[],[])
def QG (ins outs inner arcs:ByteArray):Qy:=(buB (buG ins outs inner) arcs).1
def okW (w:ByteArray):Bool:=decide (1≤w.size)&&(decide (b0 w=95)||decide (1≤(QbE w).size))
def okA (t:ByteArray):Bool:=decide (1≤t.size)&&(decide (2≤(ZJ (H1 t) 62).length)&&(okW (XO t 0)&&okW (XO t 1)))
section
variable {l:List ByteArray}{x name word text:ByteArray}{b c:DB}{G:List QB}{n k:Nat}
theorem Qun {α:Type _}{f:α→Bool}{l:List α}(h:l.any f=true):0≤ZO f l∧ZO f l < (l.length:Int):=by
 have a:=Vk f l
 rw[h,aS] at a
 refine ⟨a, ?_⟩
 unfold ZO at*
 cases d:l.findIdx? f with
 | none=>rw[d] at a; simp at a
 | some i=>
  have:=(bS.1 d).1
  simpa using this
theorem Qq3 (h:H6 l x=true):0≤atB l x∧atB l x < (l.length:Int):=by
 unfold atB; rw[if_pos h]; exact Qun h
theorem Qa9 (h:H6 l x=false):atB l x=(l.length:Int):=if_neg (by rw[h]; decide)
theorem Qq2 (f:NoneTo (fun y=>decide (y=x)) l k){y:ByteArray}(a:l[k]? =some y)(e:y=x):(k:Int)=atB l x:=by
 unfold atB
 have d:H6 l x=true:=QqV a (aY e)
 rw[if_pos d,f.at a (aY e)]
theorem Xb {y:ByteArray}(a:l[k]? =some y)(e:y=x):H6 l x=true:=QqV a (aY e)
theorem Yd (d:NoneTo (fun y=>decide (y=x)) l k)(a:l.length≤k):H6 l x=false:=d.any_no a
theorem K9 (h:H6 b.2.1 name=true):plV b name=b:=if_pos h
theorem VP (h:H6 b.2.1 name=false):plV b name=(((b.1.1.1+1,b.1.1.2),b.1.2.1,b.1.2.2.1,b.1.2.2.2++(⟨#[48]⟩:ByteArray)),b.2.1++[name],b.2.2):=if_neg (by rw[h]; decide)
theorem VS (h:H6 b.2.2 word=true):Zv b word=b:=if_pos h
theorem Z7 (h:H6 b.2.2 word=false):Zv b word=(((b.1.1.1,b.1.1.2++[([],[])]),b.1.2.1,b.1.2.2.1++[QmB b.1.2.1 word],b.1.2.2.2),b.2.1,b.2.2++[word]):=if_neg (by rw[h]; decide)
structure DBJ (b:DB) (p w m:Nat):Prop where
  st:b.1.2.2.2.size=b.2.1.length
  tr:b.1.1.2.length=b.2.2.length
  la:b.1.2.2.1.length=b.2.2.length
  p0:b.1.1.1=(b.2.1.length:Int)
  pl:b.2.1.length≤p
  ws:b.2.2.length≤w
  inn:∀t∈b.1.1.2,t.1.length≤m∧t.2.length≤m
theorem Qob:0≤plI b name∧plI b name < ((plV b name).2.1.length:Int):=by
 unfold plI
 cases h:H6 b.2.1 name with
 | true=>rw[K9 h]; exact Qq3 h
 | false=>rw[VP h,Qa9 h,ae]; simp only[aq,az]; omega
theorem QoC:0≤trI b word∧trI b word < ((Zv b word).2.2.length:Int):=by
 unfold trI
 cases h:H6 b.2.2 word with
 | true=>rw[VS h]; exact Qq3 h
 | false=>rw[Z7 h,Qa9 h,ae]; simp only[aq,az]; omega
theorem QhA:(Zv b word).1.1.1=b.1.1.1∧(Zv b word).1.2.1=b.1.2.1∧(Zv b word).1.2.2.2=b.1.2.2.2∧(Zv b word).2.1=b.2.1:=by unfold Zv; split <;> exact ⟨rfl,rfl,rfl,rfl⟩
theorem DBJ.pl_ {p w m:Nat}(h:DBJ b p w m):DBJ (plV b name) (p+1) w m:=by
 cases a:H6 b.2.1 name with
 | true=>rw[K9 a]; exact ⟨h.st,h.tr,h.la,h.p0,dD h.pl,h.ws,h.inn⟩
 | false=>
  rw[VP a]
  have d:(⟨#[48]⟩:ByteArray).size=1:=rfl
  refine ⟨?_,h.tr,h.la, ?_, ?_,h.ws,h.inn⟩
  ·show (b.1.2.2.2++(⟨#[48]⟩:ByteArray)).size=(b.2.1++[name]).length
   rw[bc,ae,h.st,d]; rfl
  ·show b.1.1.1+1=((b.2.1++[name]).length:Int)
   rw[ae,h.p0]; simp
  ·show (b.2.1++[name]).length≤p+1
   rw[ae]; have:=h.pl; simp only[aq,az]; omega
theorem DBJ.tr_ {p w m:Nat}(h:DBJ b p w m):DBJ (Zv b word) p (w+1) m:=by
 cases d:H6 b.2.2 word with
 | true=>rw[VS d]; exact ⟨h.st,h.tr,h.la,h.p0,h.pl,dD h.ws,h.inn⟩
 | false=>
  rw[Z7 d]
  refine ⟨h.st, ?_, ?_,h.p0,h.pl, ?_, ?_⟩
  ·show (b.1.1.2++[([],[])]).length=(b.2.2++[word]).length
   rw[ae,ae,h.tr]; rfl
  ·show (b.1.2.2.1++[QmB b.1.2.1 word]).length=(b.2.2++[word]).length
   rw[ae,ae,h.la]; rfl
  ·show (b.2.2++[word]).length≤w+1
   rw[ae]; have:=h.ws; simp only[aq,az]; omega
  ·intro t a
   rcases aG.1 a with a | a
   ·exact h.inn t a
   ·rw[aC.1 a]; exact ⟨aP _,aP _⟩
theorem QnS {T:List DTr}{m i:Nat}{f:DTr→DTr}(h:∀t∈T,t.1.length≤m∧t.2.length≤m)(e:∀t,(f t).1.length≤t.1.length+1∧(f t).2.length≤t.2.length+1):∀t∈T.modify i f,t.1.length≤m+1∧t.2.length≤m+1:=fun t g=>by
 obtain ⟨j,a⟩:=aO.1 g
 rw[cp] at a
 cases d:T[j]? with
 | none=>rw[d] at a; cases a
 | some u=>
  rw[d] at a
  have p:=h u (ai d)
  have o:=e u
  have a:some (if i=j then f u else u)=some t:=a
  cases a
  split <;> omega
theorem DBJ.st_ {p w m:Nat}{q:Int}(h:DBJ b p w m)(e:0≤q∧q < (b.2.1.length:Int)):DBJ ((b.1.1,b.1.2.1,b.1.2.2.1,QsC b.1.2.2.2 q),b.2.1,b.2.2) p w m:=by
 refine ⟨?_,h.tr,h.la,h.p0,h.pl,h.ws,h.inn⟩
 have a:(⟨#[49]⟩:ByteArray).size=1:=rfl
 have d:=h.st
 show (QsC b.1.2.2.2 q).size=b.2.1.length
 unfold QsC
 simp only[bc,ba,a]
 omega
theorem DBJ.more {p w m f w' e:Nat}(h:DBJ b p w m)(g:p≤f)(j:w≤w')(a:m≤e):DBJ b f w' e:=⟨h.st,h.tr,h.la,h.p0,bn h.pl g,bn h.ws j,fun t d=>⟨bn (h.inn t d).1 a,bn (h.inn t d).2 a⟩⟩
theorem DBJ.ar1_ {p w m:Nat}{q:Int}(h:DBJ b p w m):DBJ (ar1 q b text) p (w+1) (m+1):=by
 unfold ar1
 split
 ·exact h.more (aL _) (by omega) (by omega)
 ·have k:=h.tr_ (word:=XO text 0)
  exact ⟨k.st,(List.length_modify ..).trans k.tr,k.la,k.p0,k.pl,k.ws,QnS k.inn fun t=>⟨Nat.le_succ _,QbK _ _⟩⟩
theorem DBJ.ar2_ {p w m:Nat}{q:Int}(h:DBJ b p w m):DBJ (ar2 q b text) p (w+1) (m+1):=by
 unfold ar2
 split
 ·exact h.more (aL _) (by omega) (by omega)
 ·have k:=h.tr_ (word:=XO text 1)
  exact ⟨k.st,(List.length_modify ..).trans k.tr,k.la,k.p0,k.pl,k.ws,QnS k.inn fun t=>⟨QbK _ _,Nat.le_succ _⟩⟩
theorem QqX {q:Int}:(ar1 q b text).2.1=b.2.1:=by unfold ar1; split; exact rfl; exact QhA.2.2.2
theorem QqY {q:Int}:(ar2 q b text).2.1=b.2.1:=by unfold ar2; split; exact rfl; exact QhA.2.2.2
theorem DBJ.ar_ {p w m:Nat}(h:DBJ b p w m):DBJ (arV b text) (p+1) (w+2) (m+2):=by
 have d:=h.pl_ (name:=QbD text)
 have e:=d.ar1_ (q:=plI b (QbD text)) (text:=text)
 have a:=e.ar2_ (q:=plI b (QbD text)) (text:=text)
 unfold arV
 dsimp only
 split
 ·exact a.st_ (by rw[QqY,QqX]; exact Qob)
 ·exact a
theorem DBJ.zero (G:List QB):DBJ (((0,[]),G,[],ByteArray.empty),[],[]) 0 0 0:=⟨rfl,rfl,rfl,rfl,aL _,aL _,fun t h=>by cases h⟩
end
end Go.Proofs.YtndabgcpnmeeoaaGreat
namespace Go.Proofs.YtndabgcpnmeeoaaGreat
open Go.RowKit
@[reducible] def Ex {X:Type} (Q:X→Prop) (pv:X→PV) (T:X→Tab):PV→Tab→Prop:=fun p T'=>∃x,Q x∧p=pv x∧T'=T x
section
variable {A:Amb}{P:Program}{s:St}{f:FuncId}{xs:List Operand}{tys:Array TypeId}{args:List (Bool×List LV)}{d:Nat}{ty:TypeId}{pos:String}{af:Array Edge}{g:Option (Nat×Bool)}{T:Tab}{k:Nat}
  {X:Type} {Qx:X→Prop} {pv:X→PV} {T':X→Tab} {ops:Array Oper} {l:List Oper} {Q:Exit→St→Prop}
theorem DoesT.callX (n:Nat)(ρ:List (Nat×Nat))(O:FC P f args T k (Ex Qx pv T'))(L:Qg P f)(N:EvL A s xs (args.map fun c=>(c.1,c.2.map (LV.ren (rn ρ)))))(B:HasE s ρ T)
 (m:(WQ (T.map fun p=>rn ρ p.1)&&Nat.blt d A.n)=true) (hB:∀x,(Yk (pv x) (T' x)&&WQ ((T' x).map fun p=>sg ρ k n p.1)&&QjM T (T' x) k)=true) (hfr:∀x,FrK s n k (ZD (T' x))) (hk0:A.k0≤n):
 DoesT A P ⟨some d, .call ⟨.value (.func f),xs.toArray,tys⟩,ty,pos,af,g⟩ s (fun s'=>∃x,Qx x∧s'=s.backP d (sg ρ k n) (T.map fun p=>rn ρ p.1) (pv x) (T' x)):=fun a w K Q r M=>by
 obtain ⟨G,r⟩:=r
 rw[aM] at m
 obtain ⟨m,S⟩:=m
 have b:∀q,T.al q→s.tab.al (rn ρ q):=fun q ⟨e,h⟩=>⟨_,B.get h⟩
 have o:∀q j,T.al q→T.al j→rn ρ q=rn ρ j→q=j:=fun q j u i h=>JP m u i h
 have y:Cx T (G.via (rn ρ)) w:=⟨fun q e h=>(EntR.ren.1 (r.cx.en _ _ (B.get h))).mono (fun Y _ J=>⟨b Y J,rfl⟩) (fun g C=>⟨C,rfl⟩) rfl rfl fun _ _=>rfl,
  fun q j u i F=>r.cx.dj _ _ (b q u) (b j i) fun h=>F (o q j u i h),fun q h=>r.cx.nd _ (b q h),fun q h=>r.cx.no _ (b q h),r.cx.nl⟩
 have V:=(CmsR.ren.1 (N.cms r)).mono (al':=T.al) (gh':=G.via (rn ρ)) (w':=w) (fun q _ h=>⟨b q h,rfl⟩) fun g C=>⟨C,rfl⟩
 refine HZ L rfl (Calls.mono (O _ w _ y V) fun e Z R=> ?_)
 obtain ⟨v,W,T2,z,rfl,⟨x,t,rfl,rfl⟩,H,U,I,E⟩:=R
 have i:=hB x
 simp only[aM] at i
 refine M _ _ _ ⟨x,t,rfl⟩ (Qjd n ρ r B m i.1.1 i.1.2 (fun q ⟨e,t⟩ D=> ?_) (fun q ⟨e,t⟩ D=>(hfr x).get q (Zp t).1 D) hk0 S H U I E)
 have:=av.1 i.2 q (Zp t).1
 rw[show Nat.blt q k=true from cO D] at this
 exact br.1 (by simpa using this)
theorem Z4 (n:Nat)(ρ:List (Nat×Nat))(j:FC P f args T k (Ex Qx pv T'))(a:Qg P f)(i:EvL A s xs (args.map fun c=>(c.1,c.2.map (LV.ren (rn ρ)))))(b:HasE s ρ T)
 (hi:(WQ (T.map fun p=>rn ρ p.1)&&Nat.blt d A.n)=true) (hB:∀x,(Yk (pv x) (T' x)&&WQ ((T' x).map fun p=>sg ρ k n p.1)&&QjM T (T' x) k)=true) (hfr:∀x,FrK s n k (ZD (T' x))) (hk0:A.k0≤n)
 (h:∀x,Qx x→AL A P ops l Q (s.backP d (sg ρ k n) (T.map fun p=>rn ρ p.1) (pv x) (T' x))):AL A P ops (⟨some d, .call ⟨.value (.func f),xs.toArray,tys⟩,ty,pos,af,none⟩ :: l) Q s:=
 Qqm rfl (DoesT.callX n ρ j a i b hi hB hfr hk0) fun o ⟨x,m,e⟩=>e▸h x m
theorem Zg {fn:Func}{s:St}(x:X)(ρ:List (Nat×Nat)){a:PV}(i:Qx x)(b:Res A P fn s a)(h0:a=(pv x).ren (rn ρ))(c:HasE ⟨[],s.tab⟩ ρ (T' x))(e:WQ ((T' x).map fun x=>rn ρ x.1)=true)(h:idB ρ k=true):fin A P fn (Qao (Ex Qx pv T') k) .ret s:=
 QdK (pv x) (T' x) ρ (h0▸b) c e h ⟨x,i,rfl,rfl⟩
end
section
variable {A:Amb}{P:Program}{s:St}{f:FuncId}{xs:List Operand}{tys:Array TypeId}{args:List (Bool×List LV)}{d:Nat}{ty T:TypeId}{pos:String}{af:Array Edge}{g:Option (Nat×Bool)}
  {X:Type} {Qx:X→Prop} {pv:X→PV} {ops:Array Oper} {l:List Oper} {Q:Exit→St→Prop} {x:Operand}
end
end Go.Proofs.YtndabgcpnmeeoaaGreat
