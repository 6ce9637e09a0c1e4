/- Sorted lists without repetition: put in one by one, or sorted and made compact. Plain lists; no program is named here. -/
import Derived.Test.YtjaadeknhofhpaaGreatAv
import Derived.Test.YtjaadeknhofhpaaGreatAf
import Derived.Test.YtjaadeknhofhpaaGreatAi
import Derived.Test.YtjaadeknhofhpaaGreatApp
import Derived.Test.YtjaadeknhofhpaaGreatAk
import Derived.Test.YtjaadeknhofhpaaGreatStr
import Derived.Test.YtjaadeknhofhpaaGreatProg
import Derived.KernelRfl
import Derived.Test.YtjaadeknhofhpaaGreatAt
set_option linter.unusedSimpArgs false
set_option linter.unusedVariables false
set_option linter.unusedSectionVars false
namespace Go.Proofs.YtjaadeknhofhpaaGreat
structure TO {α:Type _} (lt:α→α→Bool):Prop where
  irr:∀x,lt x x=false
  tr:∀x y z,lt x y=true→lt y z=true→lt x z=true
  tot:∀x y,lt x y=true∨x=y∨lt y x=true
def YF {α:Type _}[DecidableEq α](lt:α→α→Bool)(x:α):List α→List α
  | []=>[x]
  | y :: l=>if lt y x=true then y :: YF lt x l else if y=x then y :: l else x :: y :: l
def Y6 {α:Type _}[DecidableEq α]:List α→List α
  | []=>[]
  | [x]=>[x]
  | x :: y :: l=>if x=y then Y6 (y :: l) else x :: Y6 (y :: l)
def ofG {α:Type _}[DecidableEq α](lt:α→α→Bool)(l:List α):List α:=l.foldl (fun s x=>YF lt x s) []
section
variable {α:Type _}[DecidableEq α]{lt:α→α→Bool}{l a b:List α}{x y z:α}{k:Nat}
omit [DecidableEq α] in
theorem TO.ext (h:TO lt):∀{a b:List α},a.Pairwise (fun x y=>lt x y=true)→b.Pairwise (fun x y=>lt x y=true)→(∀x,x∈a↔x∈b)→a=b
  | [],[],_,_,_=>rfl
  | [],y :: b,_,_,hm=>by have:=(hm y).2 (aA ..); cases this
  | x :: a,[],_,_,hm=>by have:=(hm x).1 (aA ..); cases this
  | x :: a,y :: b,ha,hb,hm=>by
    obtain ⟨a1,a2⟩:=bq.1 ha
    obtain ⟨b1,b2⟩:=bq.1 hb
    have hxy:x=y:=by
      rcases aH.1 ((hm x).1 (aA ..)) with h1 | h1
      · exact h1
      · rcases aH.1 ((hm y).2 (aA ..)) with h2 | h2
        · exact h2.symm
        · have := h.tr _ _ _ (a1 _ h2) (b1 _ h1)
          rw[h.irr] at this; cases this
    subst hxy
    congr 1
    refine h.ext a2 b2 fun z=>⟨fun hz=> ?_,fun hz=> ?_⟩
    · rcases aH.1 ((hm z).1 (ax _ hz)) with h1 | h1
      · subst h1; have:=a1 _ hz; rw[h.irr] at this; cases this
      · exact h1
    · rcases aH.1 ((hm z).2 (ax _ hz)) with h1 | h1
      · subst h1; have:=b1 _ hz; rw[h.irr] at this; cases this
      · exact h1
theorem Ww:z∈YF lt x l↔z=x∨z∈l:=by
  induction l with
  | nil=>simp[YF]
  | cons y l ih=>
    unfold YF
    split
    · rw [aH, ih, aH]
      constructor
      · rintro (h | h | h)
        · exact .inr (.inl h)
        · exact .inl h
        · exact .inr (.inr h)
      · rintro (h | h | h)
        · exact .inr (.inl h)
        · exact .inl h
        · exact .inr (.inr h)
    · split
      · rename_i h; subst h
        rw[aH]
        exact ⟨fun h=>h.elim .inl fun h=> .inr (.inr h),fun h=>h.elim .inl id⟩
      · rw[aH]
theorem QeY (h:TO lt)(hl:l.Pairwise (fun x y=>lt x y=true)):(YF lt x l).Pairwise (fun x y=>lt x y=true):=by
  induction l with
  | nil=>simp[YF]
  | cons y l ih=>
    obtain ⟨h1,h2⟩:=bq.1 hl
    unfold YF
    split
    · rename_i hy
      refine bq.2 ⟨fun z hz=> ?_,ih h2⟩
      rcases Ww.1 hz with rfl | hz
      · exact hy
      · exact h1 z hz
    · split
      · exact hl
      · rename_i hy hne
        have hxy:lt x y=true:=by
          rcases h.tot x y with h3 | h3 | h3
          · exact h3
          · exact absurd h3.symm hne
          · exact absurd h3 hy
        refine bq.2 ⟨fun z hz=> ?_,hl⟩
        rcases aH.1 hz with rfl | hz
        · exact hxy
        · exact h.tr _ _ _ hxy (h1 z hz)
theorem QeM (h:TO lt):∀(l s:List α),s.Pairwise (fun x y=>lt x y=true)→(l.foldl (fun s x=>YF lt x s) s).Pairwise (fun x y=>lt x y=true)∧∀z,z∈l.foldl (fun s x=>YF lt x s) s↔z∈s∨z∈l
  | [],s,hs=>⟨hs,fun z=>by simp⟩
  | x :: l,s,hs=>by
    obtain ⟨h1,h2⟩:=QeM h l _ (QeY (x:=x) h hs)
    refine ⟨h1,fun z=> ?_⟩
    rw[aS,h2,Ww,aH]
    constructor
    · rintro ((h | h) | h)
      · exact .inr (.inl h)
      · exact .inl h
      · exact .inr (.inr h)
    · rintro (h | h | h)
      · exact .inl (.inr h)
      · exact .inl (.inl h)
      · exact .inr h
theorem Qc6 (h:TO lt)(l:List α):(ofG lt l).Pairwise (fun x y=>lt x y=true):=(QeM h l [] bT).1
theorem Qbb (h:TO lt)(l:List α):z∈ofG lt l↔z∈l:=by
  have:=(QeM h l [] bT).2 z
  simpa [ofG] using this
theorem Jr:∀{l:List α},z∈Y6 l↔z∈l
  | []=>Iff.rfl
  | [x]=>Iff.rfl
  | x :: y :: l=>by
    unfold Y6
    split
    · rename_i h; subst h
      rw[Jr]
      exact ⟨ax _,fun h=>(aH.1 h).elim (fun h=>by rw[h]; exact aA ..) id⟩
    · rw[aH,Jr,aH (l:=y :: l)]
theorem QdO (h:TO lt):∀{l:List α},l.Pairwise (fun x y=>lt y x=false)→(Y6 l).Pairwise (fun x y=>lt x y=true)
  | [],_=>bT
  | [x],_=>by simp[Y6]
  | x :: y :: l,hl=>by
    obtain ⟨h1,h2⟩:=bq.1 hl
    unfold Y6
    split
    · exact QdO h h2
    · rename_i hne
      refine bq.2 ⟨fun z hz=> ?_,QdO h h2⟩
      rw[Jr] at hz
      rcases h.tot x z with h3 | h3 | h3
      · exact h3
      · subst h3
        rcases aH.1 hz with h4 | h4
        · exact absurd h4 hne
        · have h5 := h1 y (aA ..)
          have h6:=(bq.1 h2).1 x h4
          rcases h.tot x y with h7 | h7 | h7
          · rw[h6] at h7; cases h7
          · exact absurd h7 hne
          · rw[h5] at h7; cases h7
      · have:=h1 z hz; rw[this] at h3; cases h3
theorem Qrd (h:TO lt){s l:List α}(hs:s.Pairwise (fun x y=>lt y x=false))(hm:∀z,z∈s↔z∈l):Y6 s=ofG lt l:=
  h.ext (QdO h hs) (Qc6 h l) fun z=>by rw[Jr,hm,Qbb h]
theorem Qmq:∀{k:Nat} {l:List α},(∀j,j < k→∀y,l[j]? =some y→lt y x=true)→k≤l.length→(∀y,l[k]? =some y→lt y x=false∧y≠x)→YF lt x l=l.take k++x :: l.drop k
  | 0,[],_,_,_=>rfl
  | 0,y :: l,_,_,h2=>by
    obtain ⟨h3,h4⟩:=h2 y rfl
    unfold YF
    rw[if_neg (by rw[h3]; decide),if_neg h4]; rfl
  | k+1,[],_,hk,_=>by simp at hk
  | k+1,y :: l,h1,hk,h2=>by
    unfold YF
    rw[if_pos (h1 0 (by omega) y rfl),Qmq (k:=k) (fun j hj z hz=>h1 (j+1) (by omega) z (by simpa using hz)) (by simpa using hk) (fun z hz=>h2 z (by simpa using hz))]
    rfl
theorem QfH:∀{k:Nat} {l:List α},(∀j,j < k→∀y,l[j]? =some y→lt y x=true)→l[k]? =some x→lt x x=false→YF lt x l=l
  | 0,[],_,h,_=>by simp at h
  | 0,y :: l,_,h,h3=>by
    simp only[bJ,ba] at h
    subst h
    unfold YF
    rw[if_neg (by rw[h3]; decide),if_pos rfl]
  | k+1,[],_,h,_=>by simp at h
  | k+1,y :: l,h1,h,h3=>by
    unfold YF
    rw[if_pos (h1 0 (by omega) y rfl),QfH (k:=k) (fun j hj z hz=>h1 (j+1) (by omega) z (by simpa using hz)) (by simpa using h) h3]
end
def ltI (x y:Int):Bool:=decide (x < y)
theorem Vm:TO ltI:=⟨fun x=>by simp[ltI],fun x y z h1 h2=>by simp only[ltI,aN] at*; omega,fun x y=>by simp only[ltI,aN]; omega⟩
theorem QrX (l:List Int):Y6 (Vf l)=ofG ltI l:=Qrd Vm ((Qbg l).imp fun h=>by simp only[ltI,bp]; omega) fun _=>Qca
end Go.Proofs.YtjaadeknhofhpaaGreat
namespace Go.Proofs.YtjaadeknhofhpaaGreat
open Go.RowKit
set_option maxRecDepth 100000
set_option maxHeartbeats 4000000
theorem Zx (n:Int)(low:Int)(high:Int):FC Tryz.prog 84 [(false,[dI n]),(false,[dI low]),(false,[dI high])] [] 0 (Zk (lB (decide (low≤n∧n≤high)))):=by
 refine Qy Tryz.func84 rfl rfl Tryz.ntmps84 fun O_ hO w0_ N0_ X_ h0_ f0_=> ?_
 refine AC.fact (Ql (x:= .tmp 0) (Qa rfl)) fun hi1=>AC.fact (Ql (x:= .tmp 1) (Qa rfl)) fun hi2=>AC.fact (Ql (x:= .tmp 2) (Qa rfl)) fun hi3=> ?_
 iterate 8 refine w_ ?_
 cases hb4:(decide (low≤n))
 have hb4':=a6 hb4
 iterate 7 refine w_ ?_
 subst hO
 have e5:(false:Bool)=(decide (low≤n∧n≤high)):=by
  (rw[bC]; simp; omega)
 exact Qe (Res.one rfl (Qb rfl)) (by rw[← e5] <;> rfl) rfl
 have hb4':=a7 hb4
 iterate 7 refine w_ ?_
 subst hO
 have e6:(decide (n≤high):Bool)=(decide (low≤n∧n≤high)):=by
  (simp_all; done)
 exact Qe (Res.one rfl (Qb rfl)) (by rw[e6] <;> rfl) rfl
theorem XB (n:Int)(lo:Int)(hi:Int):FC Tryz.prog 174 [(false,[dI n]),(false,[dI lo]),(false,[dI hi])] [] 0 (Zk (lB (decide (lo≤n∧n≤hi)))):=by
 refine Qy Tryz.func174 rfl rfl Tryz.ntmps174 fun O_ hO w0_ N0_ X_ h0_ f0_=> ?_
 refine AC.fact (Ql (x:= .tmp 0) (Qa rfl)) fun hi1=>AC.fact (Ql (x:= .tmp 1) (Qa rfl)) fun hi2=>AC.fact (Ql (x:= .tmp 2) (Qa rfl)) fun hi3=> ?_
 iterate 8 refine w_ ?_
 cases hb4:(decide (lo≤n))
 have hb4':=a6 hb4
 iterate 7 refine w_ ?_
 subst hO
 have e5:(false:Bool)=(decide (lo≤n∧n≤hi)):=by
  (rw[bC]; simp; omega)
 exact Qe (Res.one rfl (Qb rfl)) (by rw[← e5] <;> rfl) rfl
 have hb4':=a7 hb4
 iterate 7 refine w_ ?_
 subst hO
 have e6:(decide (n≤hi):Bool)=(decide (lo≤n∧n≤hi)):=by
  (simp_all; done)
 exact Qe (Res.one rfl (Qb rfl)) (by rw[e6] <;> rfl) rfl
theorem Ht (l:List Int)(hl:l.length≤2000000):FC Tryz.prog 268 [(false,[.dat QI l])] [] 0 (Xe 3 .int l):=by
 refine Qy Tryz.func268 rfl rfl Tryz.ntmps268 fun O_ hO w0_ N0_ X_ h0_ f0_=> ?_
 iterate 4 refine w_ ?_
 refine lc (dBs 0 (e:= .int) YD) ?_
 refine w_ ?_
 refine lc (ZH 1 (Qa rfl) rfl (Evl.rep (Qa rfl)) rfl YZ XR (by first | omega | (simp only[aa,aF,ak,ao,aD]; omega) | (simp only[aa,bn,ak,ao,aD]; omega)) rfl (Fresh.of rfl) (nlr rfl)) ?_
 iterate 3 refine w_ ?_
 subst hO
 refine Zc (e:= .int) (xs:=(([])++l)) (Res.one rfl (Qb rfl)) rfl ?_
 rfl
theorem Qri {α:Type _}(f:α→Nat){xs:List α}{x:α}(h:x∈xs):f x≤(xs.map f).sum:=by
  induction xs with
  | nil=>cases h
  | cons y ys ih=>
    simp only[bf,List.sum_cons]
    rcases aH.1 h with rfl | h
    · omega
    · have:=ih h; omega
theorem Qry {n:Xz}(hz:Ty.tot Qb6 n≤2000000):n.2.length≤2000000:=by
  have:Ty.tot Qb6 n=0+(n.2.length+(n.2.map (Ty.tot Zv)).sum):=rfl
  omega
theorem Qgc {s:Q9}(hz:Ty.tot Qco s≤2000000):Ty.tot Qb6 s.1≤2000000∧s.2.1.length≤2000000∧s.2.2.1.length≤2000000:=by
  have:Ty.tot Qco s=Ty.tot Qb6 s.1+((s.2.1.length+(s.2.1.map (Ty.tot XF)).sum)+((s.2.2.1.length+(s.2.2.1.map (Ty.tot QbM)).sum)+s.2.2.2.size)):=rfl
  omega
theorem Qot {n:Xz}(hz:Ty.tot Qb6 n≤2000000):∀t∈n.2,t.1.length≤2000000∧t.2.length≤2000000:=fun t ht=>by
  have h1:Ty.tot Qb6 n=0+(n.2.length+(n.2.map (Ty.tot Zv)).sum):=rfl
  have h2:=Qri (Ty.tot Zv) ht
  have h3:Ty.tot Zv t=(t.1.length+(t.1.map (Ty.tot .int)).sum)+(t.2.length+(t.2.map (Ty.tot .int)).sum):=rfl
  omega
theorem Qdg (n:Int×(List (List Int×List Int)))(hz:Ty.tot Qb6 n≤2000000):FC Tryz.prog 173 [(true,[dI n.1, .dat X3 n.2])] [] 0 (Is (ag [dI n.1, .ref 0]) [(0,some (.arr 198 Zw n.2))]):=by
 have hm:=Qry hz
 have hp:=Qot hz
 refine Qy Tryz.func173 rfl rfl Tryz.ntmps173 fun O_ hO w0_ N0_ X_ h0_ f0_=> ?_
 refine AC.fact (QH (x:= .tmp 0) (i:=0) (Qf rfl) rfl) fun hi1=> ?_
 refine w_ ?_
 refine xbx 0 ?_
 refine lc (xal 1 Qqw Qbt) ?_
 iterate 4 refine w_ ?_
 refine lc (Qi Qgx ⟨_,_,rfl,(Qf rfl),rfl⟩ (ah.1 rfl) rfl rfl)<|lc (xal 2 Qqw Qbt) ?_
 iterate 6 refine w_ ?_
 refine AL.fact (Qp (x:= .tmp 10) (Qa rfl)) fun hl2=> ?_
 iterate 4 refine w_ ?_
 refine AC.wk (Qv 3 (p:=2) (off:=1) 198 Zw rfl rfl (Fresh.of rfl) (nlr rfl)) ?_
 refine Qm (fun m_ s_=>∃(k:Nat),k≤n.2.length∧m_=n.2.length - k∧s_=⟨[(2,lP 1 0),(3,lP 2 0),(10,lf (.dat X3 n.2)),(11,lI (n.2.length:Int)),(12,lI (k:Int))],[(1,some (.box 25 [dI 0, .val (.slice none 0 0)])),(2,some (.box 25 [dI n.1, .ref 4])),(4,some (.arr 198 Zw (n.2.take k)))]⟩) ⟨0,ap _,rfl,rfl⟩ ?_ ?_
 exact wp [(4,3)] ⟨rfl,rfl,(Qh (by first | rfl | simp)),trivial⟩
 rintro m_ s_ ⟨k,hk3,hm4,rfl⟩
 iterate 4 refine w_ ?_
 cases hb5:(decide ((k:Int) < (n.2.length:Int)))
 have hb5':=a6 hb5
 iterate 8 refine w_ ?_
 subst hO
 exact QF _ _ [(0,4)] (Res.one rfl (Qz rfl rfl Qdx rfl)) (rfl) ⟨(Qh (by rw[QN (by omega)])),trivial⟩ rfl rfl
 have hb5':=a7 hb5
 iterate 5 refine w_ ?_
 obtain ⟨x6,hx7⟩:=gx n.2 k
 iterate 2 refine w_ ?_
 refine lc (xal 5 Zw Ky) ?_
 iterate 2 refine w_ ?_
 apply dV [io 16 _,io 17 _,io 18 _,io 19 _,⟨some 20,lR 6,[(6,some (.arr 3 .int x6.1))]⟩,io 21 (lP 5 1),io 22 (lf (.dat QI x6.2)),⟨some 23,lR 7,[(7,some (.arr 3 .int x6.2))]⟩,io 24 (ag [.ref 6, .ref 7]),⟨some 25,lR 8,[(8,some (.arr 198 Zw ([(x6.1,x6.2)]))),(6,none),(7,none)]⟩,⟨some 26,lR 9,[(9,some (.arr 198 Zw ((n.2.take k)++([(x6.1,x6.2)])))),(4,none),(8,none)]⟩,io 27 _,⟨none,lf (.val undef),[(2,some (.box 25 [dI n.1, .ref 9]))]⟩] [0,0,3,3,3,31,31,3,3,3,0,0,0]
 iterate 4 refine z_ ?_
 refine zz (fun _ h_=>ac (dO 6 (Ht x6.1 (by have:=hp _ (a8 ‹_›); omega)) Qdw) rfl) ?_
 iterate 2 refine z_ ?_
 refine zz (fun _ h_=>ac (dO 7 (Ht x6.2 (by have:=hp _ (a8 ‹_›); omega)) Qdw) rfl) ?_
 refine zz (fun _ h_=>ac (Qi Qdd ⟨_,_,rfl,(h_.w rfl),⟨_,_,rfl,(h_.w rfl),rfl⟩⟩ (ah.1 (by simp only[Q6,Wx,aW,bc]; rw[(h_.en 6 rfl),(h_.en 7 rfl)]; rfl)) rfl rfl) rfl)<|zz (fun _ h_=>ac (Vo 8 (e:=Zw) QbR JX Ky rfl ⟨_,_,rfl,(h_.w rfl),rfl⟩ (ah.1 (by simp only[Q6,Wx,aW,bc]; rw[(h_.en 6 rfl),(h_.en 7 rfl)]; rfl)) ⟨_,_,_,_,rfl,⟨[.ref 6],[.ref 7],_,_,_,_,rfl,rfl,(.inl ⟨_,rfl,(h_.en 6 rfl),rfl⟩),(.inl ⟨_,rfl,(h_.en 7 rfl),rfl⟩),rfl⟩,⟨rfl,rfl⟩,rfl⟩ (by decide) rfl rfl (h_.fr 8 rfl) (nlr rfl)) rfl) ?_
 refine zz (fun _ h_=>ac (dA 9 Qc1) rfl) ?_
 refine z_ ?_
 refine zz (fun _ h_=>ac (QZ (h_.v rfl) (h_.en 2 rfl) (h_.w rfl) (by simp only[Q6,Wx,aW,bc]; rw[(h_.en 9 rfl)]; rfl) Qp2 rfl) rfl) ?_
 exact zN
 iterate 4 refine w_ ?_
 refine Qc<|QE ⟨k+1,by omega,rfl,rfl⟩ (by omega) ?_
 exact wp [(4,9)] ⟨rfl,rfl,(Qh (by rw[QO hx7])),trivial⟩
def QkT (b:Int)(t:Q2):Q2:=(t.1.map fun x=>x+b,t.2.map fun x=>x+b)
end Go.Proofs.YtjaadeknhofhpaaGreat
namespace Go.Proofs.YtjaadeknhofhpaaGreat
open Go.RowKit
set_option maxRecDepth 100000
set_option maxHeartbeats 4000000
theorem Qvs {us:List Value}(h:us.length=5):∃a0 a1 a2 a3 a4,us=[a0,a1,a2,a3,a4]:=by
  match us,h with
  | [a0,a1,a2,a3,a4],_=>exact ⟨_,_,_,_,_,rfl⟩
theorem U8 {p:Prop}[Decidable p]{w:World}{e:Ending}{w':World}(h:RetB p w e w'):RetB (decide p=true) w e w':=by
  obtain ⟨b,h1,h2,h3⟩:=h
  exact ⟨b,h1,by rw[h2,aN],h3⟩
theorem WD (s:Q9)[Decidable (StgOk s)]:FC Tryz.prog 79 [(true,leaves Qco s)] [] 0 (Zk (lf (dB (decide (StgOk s))))):=QbN fun gh w vs h=>by
  obtain ⟨us,rfl,hr⟩:=h.agg1
  obtain ⟨a0,a1,a2,a3,a4,rfl⟩:=Qvs hr.len
  exact (Qjj a0 a1 a2 a3 a4 s w hr).mono fun _ _ h=>U8 h
def QvG (ts:List Q2)(a b:Nat)(p:Int):List Q2:=(ts.modify a fun t=>(t.1,t.2++[p])).modify b fun t=>(t.1++[p],t.2)
def Y8 (b:Bool):ByteArray:=⟨#[if b then 49 else 48]⟩
def Qag (s:Q9)(o:QR):Q9:=((s.1.1+1,QvG s.1.2 o.1.toNat o.2.1.toNat s.1.1),s.2.1,s.2.2.1,s.2.2.2++Y8 o.2.2)
theorem QiT {ts:List Q2}{i:Nat}{x:Q2}(h:ts[i]? =some x):(Zr Zv ts)[i*2+1]? =some (.dat QI x.2)∧(Zr Zv ts)[i*2+0]? =some (.dat QI x.1):=
  ⟨HA (e:=Zv) (j:=1) h rfl,HA (e:=Zv) (j:=0) h rfl⟩
theorem Qkt {ts:List Q2}{i:Nat}{x:Q2}{ys:List Int}(h:ts[i]? =some x):(Zr Zv ts).set (i*2+1) (.dat QI ys)=Zr Zv (ts.set i (x.1,ys)):=
  (Qah (e:=Zv) (j:=1) (x':=(x.1,ys)) h rfl (by decide)).symm
theorem Qka {ts:List Q2}{i:Nat}{x:Q2}{ys:List Int}(h:ts[i]? =some x):(Zr Zv ts).set (i*2+0) (.dat QI ys)=Zr Zv (ts.set i (ys,x.2)):=
  (Qah (e:=Zv) (j:=0) (x':=(ys,x.2)) h rfl (by decide)).symm
theorem Qfo {s:Q9}(hz:Ty.tot Qco s≤2000000):s.2.2.2.size≤2000000:=by
  have:Ty.tot Qco s=Ty.tot Qb6 s.1+((s.2.1.length+(s.2.1.map (Ty.tot XF)).sum)+((s.2.2.1.length+(s.2.2.1.map (Ty.tot QbM)).sum)+s.2.2.2.size)):=rfl
  omega
theorem X5 (b:UInt8):(⟨#[b]⟩:ByteArray).size=1:=rfl
theorem QvB {a n:Nat}(h:a < n):a*2+1 < n*2:=by omega
theorem Qvr {a n:Nat}(h:a < n):a*2+0 < n*2:=by omega
theorem Qi3 (b:Bool):FC Tryz.prog 175 [(false,[dB b])] [] 0 (Zk (lf (.dat .u8 (if b then 49 else 48)))):=by
 refine Qy Tryz.func175 rfl rfl Tryz.ntmps175 fun O_ hO w0_ N0_ X_ h0_ f0_=> ?_
 refine w_ ?_
 refine lc (Ws (QB 0 rfl) rfl) ?_
 iterate 5 refine w_ ?_
 cases hb1:(b)
 iterate 3 refine w_ ?_
 refine lc (Ws (QB 48 rfl) rfl) ?_
 iterate 2 refine w_ ?_
 subst hO
 have e2:(48:UInt8)=(if b then 49 else 48):=by
  simp_all
 exact Qe (Res.one rfl (Qb rfl)) (by rw[← e2] <;> rfl) rfl
 iterate 2 refine w_ ?_
 refine lc (Ws (QB 49 rfl) rfl) ?_
 iterate 2 refine w_ ?_
 subst hO
 have e3:(49:UInt8)=(if b then 49 else 48):=by
  simp_all
 exact Qe (Res.one rfl (Qb rfl)) (by rw[← e3] <;> rfl) rfl
def Qa2:Q9:=((0,[]),[],[],ByteArray.empty)
def QtR (s:Q9)[Decidable (StgOk s)]:Q9×Bool:=if StgOk s then (s,true) else (Qa2,false)
end Go.Proofs.YtjaadeknhofhpaaGreat
namespace Go.Proofs.YtjaadeknhofhpaaGreat
open Go.RowKit
set_option maxRecDepth 100000
set_option maxHeartbeats 4000000
def Qpm (s:Q9)(o:QR):Prop:=StgOk s∧(0≤o.1∧o.1 < s.1.2.length)∧(0≤o.2.1∧o.2.1 < s.1.2.length)∧o.1≠o.2.1
instance (s:Q9) (o:QR) [Decidable (StgOk s)]:Decidable (Qpm s o):=inferInstanceAs (Decidable (_∧_))
def QoM (s:Q9)(o:QR)[Decidable (StgOk s)][Decidable (StgOk (Qag s o))]:Q9×Bool:=if Qpm s o then QtR (Qag s o) else (Qa2,false)
def QvT (s:Q9)(o:QR)[Decidable (StgOk s)][Decidable (StgOk (Qag s o))]:Q9×Bool:=if Qpm s o then (Qag s o,decide (StgOk (Qag s o))) else (Qa2,false)
section
variable {s:Q9}{o:QR}[Decidable (StgOk s)][Decidable (StgOk (Qag s o))]
end
end Go.Proofs.YtjaadeknhofhpaaGreat
namespace Go.Proofs.YtjaadeknhofhpaaGreat
open Go.RowKit
set_option maxRecDepth 100000
set_option maxHeartbeats 4000000
section
variable {α:Type _}(f:α→Int→α×Int)
def QP:List α→Int→List α×Int
  | [],k=>([],k)
  | x :: xs,k=>((f x k).1 :: (QP xs (f x k).2).1,(QP xs (f x k).2).2)
def mkA (a:List α)(k:Int)(i:Nat):List α:=(QP f (a.take i) k).1++a.drop i
def mkC (a:List α)(k:Int)(i:Nat):Int:=(QP f (a.take i) k).2
variable {f}
end
@[reducible] def fI:Int→Int→Int×Int:=fun _ k=>(k,k+1)
@[reducible] def fL:Int×Bool→Int→(Int×Bool)×Int:=fun _ k=>((k,decide ((k+1) % 3=0)),k+2)
end Go.Proofs.YtjaadeknhofhpaaGreat
namespace Go.Proofs.YtjaadeknhofhpaaGreat
open Go.RowKit
set_option maxRecDepth 100000
set_option maxHeartbeats 4000000
@[reducible] def fT:List Int×List Int→Int→(List Int×List Int)×Int:=fun t k=>(((QP fI t.1 k).1,(QP fI t.2 (QP fI t.1 k).2).1),(QP fI t.2 (QP fI t.1 k).2).2)
def cT (t:List Int×List Int):Nat:=t.1.length+t.2.length
def Qv2 (a:List (List Int×List Int)):Nat:=(a.map cT).sum
end Go.Proofs.YtjaadeknhofhpaaGreat
namespace Go.Proofs.YtjaadeknhofhpaaGreat
open Go.RowKit
set_option maxRecDepth 100000
set_option maxHeartbeats 4000000
def dg (k:Int):Nat→ByteArray
  | 0=>(⟨#[]⟩:ByteArray)
  | j+1=>(⟨#[UInt8.ofNat ((48+(k / 10 ^ j) % 10):Int).toNat]⟩:ByteArray)++dg k j
def mt (k:Int):Nat→Nat→ByteArray
  | 0,j=>dg k j
  | n+1,j=>if k / 10 ^ j≤0 then dg k j else mt k n (j+1)
def Qsx (k:Int):ByteArray:=if k≤0 then (⟨#[109,48]⟩:ByteArray) else (⟨#[109]⟩:ByteArray)++mt k 20 0
end Go.Proofs.YtjaadeknhofhpaaGreat
namespace Go.Proofs.YtjaadeknhofhpaaGreat
open Go.RowKit
set_option maxRecDepth 100000
set_option maxHeartbeats 4000000
@[reducible] def fS:ByteArray×Int→Int→(ByteArray×Int)×Int:=fun _ k=>((Qsx k,k+1),k+2)
def QvZ (s:Q9)(k:Int):Q9×Int:=(((s.1.1,(QP fT s.1.2 k).1),(QP fS s.2.1 (QP fT s.1.2 k).2).1,(QP fL s.2.2.1 (QP fS s.2.1 (QP fT s.1.2 k).2).2).1,s.2.2.2),(QP fL s.2.2.1 (QP fS s.2.1 (QP fT s.1.2 k).2).2).2)
end Go.Proofs.YtjaadeknhofhpaaGreat
namespace Go.Proofs.YtjaadeknhofhpaaGreat
open Go.RowKit
set_option maxRecDepth 100000
set_option maxHeartbeats 4000000
section
variable [∀s,Decidable (StgOk s)]
def Qu8:Q9→List QR→Q9×Bool
  | s,[]=>(s,true)
  | s,o :: os=>if (QoM s o).2=true then Qu8 (QoM s o).1 os else (Qa2,false)
def Qvv (s:Q9)(l:List QR):Q9×Bool:=if StgOk s∧l.length≤6 then Qu8 s l else (Qa2,false)
end
@[reducible] def QtQ:(QR)→Int→(QR)×Int:=fun _ k=>((k,k+1,decide ((k+1+1) % 3=0)),k+1+1+1)
end Go.Proofs.YtjaadeknhofhpaaGreat
namespace Go.Proofs.YtjaadeknhofhpaaGreat
open Go.RowKit
set_option maxRecDepth 100000
set_option maxHeartbeats 4000000
def bAt (m:ByteArray)(p:Int):UInt8:=(m[p.toNat]?).getD 0
theorem QC {m:ByteArray}{p:Int}{c:UInt8}(h:m[p.toNat]? =some c):bAt m p=c:=by unfold bAt; rw[h]; rfl
theorem X7 (m:ByteArray):m.toList.length=m.size:=by simp[bj]
def Ze {α:Type _}(f:α→Bool)(l:List α):Int:=match l.findIdx? f with | some i=>i | none=> -1
def NoneTo {α:Type _}(f:α→Bool)(l:List α)(k:Nat):Prop:=∀j,j < k→∀x,l[j]? =some x→f x=false
section
variable {α:Type _}{f:α→Bool}{l:List α}{k:Nat}{x:α}
theorem NoneTo.zero:NoneTo f l 0:=fun j hj=>absurd hj (b7 j)
theorem NoneTo.step (h:NoneTo f l k)(hx:l[k]? =some x)(hf:f x=false):NoneTo f l (k+1):=fun j hj y hy=>by
  by_cases e:j=k
  · subst e; rw[hx] at hy; cases hy; exact hf
  · exact h j (by omega) y hy
theorem NoneTo.at (h:NoneTo f l k)(hx:l[k]? =some x)(hf:f x=true):Ze f l=k:=by
  obtain ⟨h1,h2⟩:=ab.1 hx
  have:l.findIdx? f=some k:=c9.2 ⟨h1,by rw[h2]; exact hf,fun j hj=>by
    have:=h j hj _ (ai (by omega))
    simp[this]⟩
  unfold Ze
  rw[this]
theorem NoneTo.no (h:NoneTo f l k)(hk:l.length≤k):Ze f l= -1:=by
  have:l.findIdx? f=none:=List.findIdx?_eq_none_iff.2 fun x hx=>by
    obtain ⟨j,hj⟩:=aJ.1 hx
    have:=(ab.1 hj).1
    exact h j (by omega) x hj
  unfold Ze
  rw[this]
theorem NoneTo.any_no (h:NoneTo f l k)(hk:l.length≤k):l.any f=false:=cr.2 fun x hx=>by
  obtain ⟨j,hj⟩:=aJ.1 hx
  have:=(ab.1 hj).1
  simp[h j (by omega) x hj]
theorem Qp6 (hx:l[k]? =some x)(hf:f x=true):l.any f=true:=bS.2 ⟨x,a8 hx,hf⟩
theorem VN (f:α→Bool)(l:List α):decide (0≤Ze f l)=l.any f:=by
  unfold Ze
  cases h:l.findIdx? f with
  | none=>
    have:=List.findIdx?_eq_none_iff.1 h
    rw[bC]
    simp only[bS,aN]
    constructor
    · intro h; omega
    · rintro ⟨x,hx,hf⟩; rw[this x hx] at hf; cases hf
  | some i=>
    obtain ⟨h1,h2,_⟩:=c9.1 h
    have:l.any f=true:=bS.2 ⟨_,cI h1,h2⟩
    rw[this]
    simp
def Wc (f:α→Bool)(l:List α):Nat→List Int
  | 0=>[]
  | k+1=>Wc f l k++(match l[k]? with | some x=>if f x then [(k:Int)] else [] | none=>[])
theorem Qno (hx:l[k]? =some x)(hf:f x=true):Wc f l k++[(k:Int)]=Wc f l (k+1):=by simp[Wc,hx,hf]
theorem QoQ (hx:l[k]? =some x)(hf:f x=false):Wc f l k=Wc f l (k+1):=by simp[Wc,hx,hf]
theorem QfT (f:α→Bool)(l:List α)(k:Nat):(Wc f l k).length≤k:=by
  induction k with
  | zero=>simp[Wc]
  | succ k ih=>
    simp only[Wc,aa]
    split
    · split <;> simp <;> omega
    · simp; omega
theorem Qor {f:α→Bool}{l:List α}{k:Nat}{t:Int}(h:t∈Wc f l k):∃x,0≤t∧t < l.length∧t < k∧l[t.toNat]? =some x∧f x=true:=by
  induction k with
  | zero=>simp[Wc] at h
  | succ k ih=>
    simp only[Wc,aL] at h
    rcases h with h | h
    · obtain ⟨x,h1,h2,h3,h4⟩:=ih h; exact ⟨x,h1,h2,by omega,h4⟩
    · cases hx : l[k]? with
      | none=>rw[hx] at h; simp at h
      | some x=>
        rw[hx] at h
        cases hf:f x with
        | false=>simp[hf] at h
        | true=>
          simp only[hf,if_true,aK] at h
          subst h
          have:=(ab.1 hx).1
          exact ⟨x,by omega,by omega,by omega,by simpa using hx,hf⟩
theorem Yb {l:List α}{k:Nat}{x:α}(hx:l[k]? =some x):l.drop k=x :: l.drop (k+1):=by
  obtain ⟨h1,h2⟩:=ab.1 hx
  rw[List.drop_eq_getElem_cons h1,h2]
end
def QcI (m:ByteArray)(ps:List Int):Prop:=∀p∈ps,(0≤p∧p < m.size)∧(bAt m p=48∨bAt m p=49)
def enb (m:ByteArray)(t:Q2):Bool:= !t.1.any fun p=>decide (bAt m p=48)
def KZ (n:Xz)(m:ByteArray):List Int:=Wc (enb m) n.2 n.2.length
def clr (l:List UInt8):List Int→List UInt8
  | []=>l
  | p :: ps=>clr (l.set p.toNat 48) ps
def JD (l:List UInt8):List Int→Option (List UInt8)
  | []=>some l
  | p :: ps=>if l[p.toNat]? =some 49 then none else JD (l.set p.toNat 49) ps
def JA (m:ByteArray)(t:Q2):ByteArray×Bool:=match JD (clr m.toList t.1) t.2 with
  | none=>(⟨#[]⟩,false)
  | some l=>(⟨l.toArray⟩,true)
def Yw (n:Xz)(m:ByteArray)(t:Int):ByteArray×Bool:=match n.2[t.toNat]? with
  | none=>(⟨#[]⟩,false)
  | some x=>JA m x
def QvO (n:Xz)(m:ByteArray)(t:Int):ByteArray×Bool:=if 0≤t then (match n.2[t.toNat]? with
  | none=>(⟨#[]⟩,false)
  | some x=>if enb m x then JA m x else (⟨#[]⟩,false)) else (⟨#[]⟩,false)
section
variable {n:Xz}{m:ByteArray}{t:Int}{x:Q2}{l:List UInt8}{ps:List Int}{k:Nat}{p:Int}
theorem QqI (hx:ps[k]? =some p):clr l (ps.drop k)=clr (l.set p.toNat 48) (ps.drop (k+1)):=by rw[Yb hx,clr]
theorem QrQ (h:ps.length≤k):clr l (ps.drop k)=l:=by rw[bt h,clr]
theorem QnE (hx:ps[k]? =some p){c:UInt8}(hc:l[p.toNat]? =some c)(hn:decide (c=49)=false):JD l (ps.drop k)=JD (l.set p.toNat 49) (ps.drop (k+1)):=by
  rw[Yb hx,JD,if_neg]
  rw[hc]
  intro h
  cases h
  simp at hn
theorem QmM (hx:ps[k]? =some p){c:UInt8}(hc:l[p.toNat]? =some c)(hn:decide (c=49)=true):JD l (ps.drop k)=none:=by
  rw[Yb hx,JD,if_pos]
  rw[hc,a7 hn]
theorem Qi6 (h:ps.length≤k):JD l (ps.drop k)=some l:=by rw[bt h,JD]
theorem QrE (l:List UInt8)(ps:List Int):(clr l ps).length=l.length:=by
  induction ps generalizing l with
  | nil=>rfl
  | cons p ps ih=>rw[clr,ih,au]
theorem QfY (h:JD (clr m.toList x.1) x.2=none):JA m x=(⟨#[]⟩,false):=by unfold JA; rw[h]
theorem Qe3 (h:JD (clr m.toList x.1) x.2=some l):JA m x=(⟨l.toArray⟩,true):=by unfold JA; rw[h]
theorem QcV (hx:n.2[t.toNat]? =some x):Yw n m t=JA m x:=by unfold Yw; rw[hx]
def Hu (n:Xz)(m:ByteArray)(t:Int):Bool:=match n.2[t.toNat]? with
  | some x=>enb m x
  | none=>false
theorem Qc4 (hx:n.2[t.toNat]? =some x):Hu n m t=enb m x:=by unfold Hu; rw[hx]
theorem QpT (h:QcI m x.1):enb m x=true↔∀p∈x.1,bAt m p=49:=by
  unfold enb
  simp only[bB,cr,aN]
  constructor
  · intro k p hp
    rcases (h p hp).2 with h1 | h1
    · exact absurd h1 (k p hp)
    · exact h1
  · intro k p hp h1
    rw[k p hp] at h1
    exact absurd h1 (by decide)
theorem Qjp {c:UInt8}(hA:∀j,j < k→∀y,ps[j]? =some y→bAt m y=49)(hx:ps[k]? =some p)(hc:m[p.toNat]? =some c)(hb:(!decide (c=49))=false):∀j,j < k+1→∀y,ps[j]? =some y→bAt m y=49:=fun j hj y hy=>by
  by_cases e:j=k
  · subst e; rw [hx] at hy; cases hy
    rw[QC hc]
    simpa using hb
  · exact hA j (by omega) y hy
theorem Qpp {c:UInt8}(hn:n.2[t.toNat]? =some x)(hp:QcI m x.1)(hx:x.1[k]? =some p)(hc:m[p.toNat]? =some c)(hb:(!decide (c=49))=true):Hu n m t=false:=by
  rw[Qc4 hn,cg]
  intro h
  have:=(QpT hp).1 h p (a8 hx)
  rw[QC hc] at this
  simp[this] at hb
theorem Qny (hn:n.2[t.toNat]? =some x)(hp:QcI m x.1)(hA:∀j,j < k→∀y,x.1[j]? =some y→bAt m y=49)(hk:x.1.length≤k):Hu n m t=true:=by
  rw[Qc4 hn]
  refine (QpT hp).2 fun p h=> ?_
  obtain ⟨j,hj⟩:=aJ.1 h
  have:=(ab.1 hj).1
  exact hA j (by omega) p hj
theorem Qef (hk:k < n.2.length)(h:Hu n m (k:Int)=true):Wc (enb m) n.2 k++[(k:Int)]=Wc (enb m) n.2 (k+1):=by
  have hx:=ai hk
  rw[Qc4 (t:=(k:Int)) (show n.2[((k:Int)).toNat]? =some _ from hx)] at h
  exact Qno hx h
theorem Qf0 (hk:k < n.2.length)(h:Hu n m (k:Int)=false):Wc (enb m) n.2 k=Wc (enb m) n.2 (k+1):=by
  have hx:=ai hk
  rw[Qc4 (t:=(k:Int)) (show n.2[((k:Int)).toNat]? =some _ from hx)] at h
  exact QoQ hx h
end
theorem QdT (n:Int×(List (List Int×List Int)))(mark:ByteArray)(t:Int)(hnb:∀t∈n.2,QcI mark t.1∧QcI mark t.2)(ht:0≤t∧t < (n.2.length:Int)):FC Tryz.prog 307 [(true,[dI n.1, .dat X3 n.2]),(false,[dS mark]),(false,[dI t])] [] 0 (Zk (PV.tup [(false,[dS ((Yw n mark t).1)]),(false,[dB ((Yw n mark t).2)])])):=by
 have hml:=X7 mark
 refine Qy Tryz.func307 rfl rfl Tryz.ntmps307 fun O_ hO w0_ N0_ X_ h0_ f0_=> ?_
 refine AC.fact (QH (x:= .tmp 0) (i:=0) (Qf rfl) rfl) fun hi1=>AC.fact (Ql (x:= .tmp 2) (Qa rfl)) fun hi2=> ?_
 refine w_ ?_
 refine xbx 0 ?_
 iterate 5 refine w_ ?_
 refine lc (Qgs 1 (Qa rfl) Zo ZF Ve rfl (Fresh.of rfl) (nlr rfl)) ?_
 iterate 7 refine w_ ?_
 obtain ⟨x,hx4⟩:=gx n.2 ((t).toNat)
 have hx1:=(hnb _ (a8 hx4)).1
 have hx2:=(hnb _ (a8 hx4)).2
 iterate 3 refine w_ ?_
 refine AL.fact (Qp (x:= .tmp 20) (Qa rfl)) fun hl5=> ?_
 iterate 4 refine w_ ?_
 refine Qm (fun m_ s_=>∃(k:Nat) (l:List UInt8),k≤x.1.length∧m_=x.1.length - k∧(clr mark.toList x.1=clr l (x.1.drop k))∧(l.length=mark.toList.length)∧s_=⟨[(2,lI t),(3,lP 0 0),(6,lf (dS (⟨#[]⟩:ByteArray))),(7,lB false),(8,lR 2),(20,lf (.dat QI x.1)),(21,lI (x.1.length:Int)),(22,lI (k:Int))],[(0,some (.box 25 [dI n.1, .dat X3 n.2])),(2,some (.bys 5 l))]⟩) ⟨0,mark.toList,ap _,rfl,rfl,rfl,rfl⟩ ?_ ?_
 exact wo [(2,1)]
 rintro m_ s_ ⟨k,l,hk6,hm7,hA,hL,rfl⟩
 iterate 4 refine w_ ?_
 cases hb8:(decide ((k:Int) < (x.1.length:Int)))
 have hb8':=a6 hb8
 iterate 11 refine w_ ?_
 refine AL.fact (Qp (x:= .tmp 35) (Qa rfl)) fun hl9=> ?_
 iterate 4 refine w_ ?_
 refine Qm (fun m_ s_=>∃(i:Nat) (l2:List UInt8),i≤x.2.length∧m_=x.2.length - i∧(JD (clr mark.toList x.1) x.2=JD l2 (x.2.drop i))∧(l2.length=mark.toList.length)∧s_=⟨[(8,lR 3),(35,lf (.dat QI x.2)),(36,lI (x.2.length:Int)),(37,lI (i:Int))],[(3,some (.bys 5 l2))]⟩) ⟨0,l,ap _,rfl,by rw[hA,QrQ (by omega)]; rfl,hL,rfl⟩ ?_ ?_
 exact wo [(3,2)]
 rintro m_ s_ ⟨i,l2,hk10,hm11,hA2,hL2,rfl⟩
 iterate 4 refine w_ ?_
 cases hb12:(decide ((i:Int) < (x.2.length:Int)))
 have hb12':=a6 hb12
 iterate 5 refine w_ ?_
 refine lc (Zt (ys:=l2) (Qqs (Qa rfl) rfl) ZF Ve Zo rfl) ?_
 iterate 4 refine w_ ?_
 subst hO
 have e13:((⟨(l2).toArray⟩:ByteArray):ByteArray)=((Yw n mark t).1):=by
  first | (rw[QcV (x:=x) ‹_›,Qe3 (hA2.trans (Qi6 (by omega)))]; done)
 have e14:(true:Bool)=((Yw n mark t).2):=by
  first | (rw[QcV (x:=x) ‹_›,Qe3 (hA2.trans (Qi6 (by omega)))]; done)
 exact Qe (QM rfl (Qb rfl) (Qb rfl)) (by rw[e13,← e14] <;> rfl) rfl
 have hb12':=a7 hb12
 iterate 5 refine w_ ?_
 obtain ⟨x15,hx16⟩:=gx x.2 i
 have hrx15:=(hx2 _ (a8 hx16)).1
 iterate 2 refine w_ ?_
 refine AL.fact (Ql (x:= .tmp 40) (Qa rfl)) fun hi17=> ?_
 iterate 6 refine w_ ?_
 refine lc (JI (Qa rfl) rfl (Qa rfl) ZF Zi rfl (by omega) (by first | omega | (simp only[au]; omega))) ?_
 obtain ⟨x18,hx19⟩:=gx l2 ((x15).toNat)
 refine lc (Qky (Qa rfl) rfl hx19 Zi rfl)<|lc (Qt (Qa rfl) (QB 49 rfl) rfl) ?_
 refine w_ ?_
 cases hb20:(decide (x18=49))
 have hb20':=a6 hb20
 iterate 5 refine w_ ?_
 refine lc (JI (Qa rfl) rfl (Qa rfl) ZF Zi rfl (by omega) (by first | omega | (simp only[au]; omega)))<|lc (Qcc (Qa rfl) rfl (by first | omega | (simp only[au]; omega)) (QB 49 rfl) Zi)<|Qc ?_
 iterate 4 refine w_ ?_
 refine Qc<|QE ⟨i+1,(l2.set ((x15).toNat) 49),by omega,rfl,hA2.trans (QnE hx16 hx19 ‹_›),by rw[au]; exact hL2,rfl⟩ (by omega) ?_
 exact wp [] ⟨(QuI (by first | rfl | simp)),trivial⟩
 have hb20':=a7 hb20
 iterate 6 refine w_ ?_
 subst hO
 have e21:((⟨#[]⟩:ByteArray):ByteArray)=((Yw n mark t).1):=by
  (rw[QcV (x:=x) ‹_›,QfY (hA2.trans (QmM hx16 hx19 ‹_›))]; done)
 have e22:(false:Bool)=((Yw n mark t).2):=by
  (rw[QcV (x:=x) ‹_›,QfY (hA2.trans (QmM hx16 hx19 ‹_›))]; done)
 exact Qe (QM rfl (Qb rfl) (Qb rfl)) (by rw[e21,← e22] <;> rfl) rfl
 have hb8':=a7 hb8
 iterate 5 refine w_ ?_
 obtain ⟨x23,hx24⟩:=gx x.1 k
 have hrx23:=(hx1 _ (a8 hx24)).1
 iterate 2 refine w_ ?_
 refine AL.fact (Ql (x:= .tmp 25) (Qa rfl)) fun hi25=> ?_
 iterate 5 refine w_ ?_
 refine lc (JI (Qa rfl) rfl (Qa rfl) ZF Zi rfl (by omega) (by first | omega | (simp only[au]; omega)))<|lc (Qcc (Qa rfl) rfl (by first | omega | (simp only[au]; omega)) (QB 48 rfl) Zi)<|Qc ?_
 iterate 4 refine w_ ?_
 refine Qc<|QE ⟨k+1,(l.set ((x23).toNat) 48),by omega,rfl,hA.trans (QqI hx24),by rw[au]; exact hL,rfl⟩ (by omega) ?_
 exact wp [] ⟨rfl,(QuI (by first | rfl | simp)),trivial⟩
theorem Qcq (n:Int×(List (List Int×List Int)))(mark:ByteArray)(t:Int)(hnb:∀t∈n.2,QcI mark t.1∧QcI mark t.2)(ht:0≤t∧t < (n.2.length:Int)):FC Tryz.prog 309 [(true,[dI n.1, .dat X3 n.2]),(false,[dS mark]),(false,[dI t])] [] 0 (Zk (lB (Hu n mark t))):=by
 refine Qy Tryz.func309 rfl rfl Tryz.ntmps309 fun O_ hO w0_ N0_ X_ h0_ f0_=> ?_
 refine AC.fact (QH (x:= .tmp 0) (i:=0) (Qf rfl) rfl) fun hi1=>AC.fact (Ql (x:= .tmp 2) (Qa rfl)) fun hi2=> ?_
 refine w_ ?_
 refine xbx 0 ?_
 iterate 7 refine w_ ?_
 obtain ⟨x,hx4⟩:=gx n.2 ((t).toNat)
 have hx1:=(hnb _ (a8 hx4)).1
 iterate 3 refine w_ ?_
 refine AL.fact (Qp (x:= .tmp 14) (Qa rfl)) fun hl5=> ?_
 iterate 4 refine w_ ?_
 refine Qm (fun m_ s_=>∃(k:Nat),k≤x.1.length∧m_=x.1.length - k∧(∀j,j < k→∀y,x.1[j]? =some y→bAt mark y=49)∧s_=⟨[(1,lf (dS mark)),(14,lf (.dat QI x.1)),(15,lI (x.1.length:Int)),(16,lI (k:Int))],[]⟩) ⟨0,ap _,rfl,fun j hj=>absurd hj (b7 j),rfl⟩ ?_ ?_
 exact wo []
 rintro m_ s_ ⟨k,hk6,hm7,hA,rfl⟩
 iterate 4 refine w_ ?_
 cases hb8:(decide ((k:Int) < (x.1.length:Int)))
 have hb8':=a6 hb8
 iterate 7 refine w_ ?_
 subst hO
 have e9:(true:Bool)=(Hu n mark t):=by
  first | exact (Qny ‹_› hx1 hA (by omega)).symm
 exact Qe (Res.one rfl (Qb rfl)) (by rw[← e9] <;> rfl) rfl
 have hb8':=a7 hb8
 iterate 5 refine w_ ?_
 obtain ⟨x10,hx11⟩:=gx x.1 k
 have hrx10:=(hx1 _ (a8 hx11)).1
 iterate 2 refine w_ ?_
 refine AL.fact (Ql (x:= .tmp 19) (Qa rfl)) fun hi12=> ?_
 iterate 5 refine w_ ?_
 obtain ⟨c13,hc14⟩:=gs mark ((x10).toNat)
 refine w_ ?_
 refine lc (Q7 (Qa rfl) (QB 49 rfl) rfl) ?_
 refine w_ ?_
 cases hb15:(!decide (c13=49))
 have hb15':(c13=49):=QT hb15
 iterate 6 refine w_ ?_
 refine Qc<|QE ⟨k+1,by omega,rfl,Qjp hA hx11 ‹_› ‹_›,rfl⟩ (by omega) ?_
 exact wo []
 have hb15':¬(c13=49):=Q0 hb15
 iterate 5 refine w_ ?_
 subst hO
 have e16:(false:Bool)=(Hu n mark t):=by
  exact (Qpp ‹_› hx1 hx11 ‹_› ‹_›).symm
 exact Qe (Res.one rfl (Qb rfl)) (by rw[← e16] <;> rfl) rfl
theorem Qbd (n:Int×(List (List Int×List Int)))(mark:ByteArray)(hnb:∀t∈n.2,QcI mark t.1∧QcI mark t.2)(hnl:n.2.length≤2000000):FC Tryz.prog 231 [(true,[dI n.1, .dat X3 n.2]),(false,[dS mark])] [] 0 (Xe 3 .int (KZ n mark)):=by
 refine Qy Tryz.func231 rfl rfl Tryz.ntmps231 fun O_ hO w0_ N0_ X_ h0_ f0_=> ?_
 refine AC.fact (QH (x:= .tmp 0) (i:=0) (Qf rfl) rfl) fun hi1=> ?_
 refine w_ ?_
 refine xbx 0 ?_
 iterate 9 refine w_ ?_
 refine AL.fact (Qp (x:= .tmp 8) (Qa rfl)) fun hl2=> ?_
 iterate 4 refine w_ ?_
 refine AC.wk (Wk.nilS 1 5 3 .int rfl (Fresh.of rfl) (nlr rfl)) ?_
 refine Qm (fun m_ s_=>∃(k:Nat),k≤n.2.length∧m_=n.2.length - k∧s_=⟨[(1,lf (dS mark)),(2,lP 0 0),(4,lf (.val (.slice none 0 0))),(5,lR 2),(9,lI (n.2.length:Int)),(10,lI (k:Int))],[(0,some (.box 25 [dI n.1, .dat X3 n.2])),(2,some (.arr 3 .int (Wc (enb mark) n.2 k)))]⟩) ⟨0,ap _,rfl,rfl⟩ ?_ ?_
 exact wp [(2,1)] ⟨rfl,(Qh (by first | rfl | simp)),trivial⟩
 rintro m_ s_ ⟨k,hk3,hm4,rfl⟩
 have hpk:=QfT (enb mark) n.2 k
 iterate 4 refine w_ ?_
 cases hb5:(decide ((k:Int) < (n.2.length:Int)))
 have hb5':=a6 hb5
 iterate 8 refine w_ ?_
 subst hO
 refine Zc (e:= .int) (xs:=(Wc (enb mark) n.2 k)) (Res.one rfl (Qb rfl)) rfl ?_
 rw[show k=n.2.length by omega]; rfl
 have hb5':=a7 hb5
 iterate 12 refine w_ ?_
 refine lc (dK (Qcq n mark (k:Int) hnb (by omega)) Qko) ?_
 refine w_ ?_
 cases hb6:(Hu n mark (k:Int))
 iterate 6 refine w_ ?_
 refine Qc<|QE ⟨k+1,by omega,rfl,rfl⟩ (by omega) ?_
 exact wp [] ⟨rfl,(Qh (by first | exact Qef (by omega) ‹_› | exact Qf0 (by omega) ‹_›)),trivial⟩
 iterate 4 refine w_ ?_
 refine lc (dBs 3 (e:= .int) YD) ?_
 refine lc (dA 4 XR) ?_
 refine w_ ?_
 refine Qc ?_
 iterate 4 refine w_ ?_
 refine Qc<|QE ⟨k+1,by omega,rfl,rfl⟩ (by omega) ?_
 exact wp [(2,4)] ⟨rfl,(Qh (by first | exact Qef (by omega) ‹_› | exact Qf0 (by omega) ‹_›)),trivial⟩
end Go.Proofs.YtjaadeknhofhpaaGreat
