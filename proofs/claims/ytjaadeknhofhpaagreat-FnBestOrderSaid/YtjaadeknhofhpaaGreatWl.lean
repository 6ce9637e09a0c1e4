/- Walks over abstract states: reachability. -/
import Derived.Test.YtjaadeknhofhpaaGreatWk
set_option linter.unusedSimpArgs false
set_option linter.unusedVariables false
set_option linter.unusedSectionVars false
namespace Go.Proofs.YtjaadeknhofhpaaGreat
open Go.RowKit
set_option maxRecDepth 100000
set_option maxHeartbeats 4000000
abbrev RS:=List ByteArray×List (Int×Int×Int)×List (Int×Int×Int)
abbrev QiM:=Int×Int×Bool
def YA (l:List ByteArray)(x:ByteArray):Int:=ZN (fun y=>decide (y=x)) l
def goT (n:Xj)(k:Nat)(mk:ByteArray):List Int→RS→RS×QiM
  | [],st=>(st,(-1, -1,true))
  | t :: ts,st=>
    if (Ym n mk t).2=false then (st,(k,t,false))
    else if 0≤YA st.1 (Ym n mk t).1 then goT n k mk ts (st.1,st.2.1++[((k:Int),t,YA st.1 (Ym n mk t).1)],st.2.2)
    else if st.1.length=300 then (st,(-1, -1,false))
    else goT n k mk ts (st.1++[(Ym n mk t).1],st.2.1++[((k:Int),t,(st.1.length:Int))],st.2.2++[((k:Int),t,(st.1.length:Int))])
def goK (n:Xj):Nat→Nat→RS→RS×QiM
  | 0,_,st=>(st,(-1, -1,true))
  | f+1,k,st=>match st.1[k]? with
    | none=>(st,(-1, -1,true))
    | some mk=>if (goT n k mk (Zl n mk) st).2.2.2=true then goK n f (k+1) (goT n k mk (Zl n mk) st).1 else goT n k mk (Zl n mk) st
def Qae (n:Xj)(f k:Nat)(r:RS×QiM):RS×QiM:=if r.2.2.2=true then goK n f (k+1) r.1 else r
def Yt (s:QX):RS×QiM:=goK s.1 301 0 ([s.2.2.2],[],[((0:Int),(0:Int),(0:Int))])
def exV (s:QX):(List ByteArray×List (Int×Int×Int))×Int×Int×Bool:=(((Yt s).1.1,(Yt s).1.2.1),(Yt s).2)
def l4V (s:QX):(List ByteArray×List (Int×Int×Int))×List (Int×Int×Int)×Int×Int×Bool:=
  (((Yt s).1.1,(Yt s).1.2.1),(Yt s).1.2.2,(if 0≤(Yt s).2.2.1 then (Yt s).2.1 else 0),(Yt s).2.2.1,(!(Yt s).2.2.2&&decide ((Yt s).2.2.1 < 0)))
def Qkz:List ByteArray×List (Int×Int×Int):=([],[])
section
variable [∀s,Decidable (StgOk s)]
def Qe (s:QX):(List ByteArray×List (Int×Int×Int))×Bool:=if StgOk s∧(Yt s).2.2.2=true then (((Yt s).1.1,(Yt s).1.2.1),true) else (Qkz,false)
end
theorem QmU (l:List ByteArray)(x y:ByteArray):YA (l++[y]) x=if 0≤YA l x then YA l x else if y=x then (l.length:Int) else -1:=by
  unfold YA ZN
  rw[List.findIdx?_append]
  cases h:l.findIdx? (fun z=>decide (z=x)) with
  | some i=>simp
  | none=>
    by_cases e:y=x
    · simp[e]
    · simp[e]
def IdxOf (QT:List ByteArray)(idx:List (ByteArray×Int)):Prop:=∀x,WI .str idx x=if 0≤YA QT x then some (YA QT x) else none
section
variable {QT:List ByteArray}{idx:List (ByteArray×Int)}{x:ByteArray}{v b:List (Int×Int×Int)}{n:Xj}{k f i:Nat}{mk:ByteArray}{t:Int}{ts:List Int}{r:ByteArray×Bool}{j:Int}{s:QX}{e:QiM}
theorem IdxOf.old (h:IdxOf QT idx)(hs:(WI .str idx x).isSome=true):0≤YA QT x∧(WI .str idx x).getD (Ty.zero .int)=YA QT x:=by
  rw[h x] at hs ⊢
  by_cases h0:0≤YA QT x
  · rw[if_pos h0]; exact ⟨h0,rfl⟩
  · rw[if_neg h0] at hs; cases hs
theorem IdxOf.new (h:IdxOf QT idx)(hs:(WI .str idx x).isSome=false):¬0≤YA QT x:=by
  rw[h x] at hs
  intro h0
  rw[if_pos h0] at hs; cases hs
theorem IdxOf.set (h:IdxOf QT idx)(hs:(WI .str idx x).isSome=false):IdxOf (QT++[x]) (Wa .str idx x (QT.length:Int)):=fun y=>by
  have h0:=h.new hs
  rw[Qgm,QmU,h y]
  by_cases e:x=y
  · subst e
    rw[if_pos ((Ty.beq_iff .str x x).2 rfl),if_neg h0,if_pos rfl,if_pos (cC _)]
  · have : Ty.beq .str x y = false := cv.2 fun h => e ((Ty.beq_iff .str x y).1 h)
    rw[if_neg (show¬Ty.beq .str x y=true by rw[this]; decide),if_neg e]
    by_cases h1:0≤YA QT y
    · rw[if_pos h1,if_pos h1,if_pos h1]
    · rw[if_neg h1,if_neg h1,if_neg (by decide)]
theorem IdxOf.one (x:ByteArray):IdxOf [x] (Wa .str ([]:List (ByteArray×Int)) x 0):=fun y=>by
  rw[Qgm]
  by_cases e:x=y
  · subst e
    rw[if_pos ((Ty.beq_iff .str x x).2 rfl)]
    simp[YA,ZN]
  · have : Ty.beq .str x y = false := cv.2 fun h => e ((Ty.beq_iff .str x y).1 h)
    rw[if_neg (show¬Ty.beq .str x y=true by rw[this]; decide)]
    simp[YA,ZN,e,WI]
theorem WL (hx:ts[i]? =some t)(hr:r=Ym n mk t)(hb:r.2=false):Qae n f k (goT n k mk (ts.drop i) (QT,v,b))=((QT,v,b),((k:Int),t,false)):=by
  subst hr
  rw[YC hx,goT,if_pos hb]
  rfl
theorem Qdh (hx:ts[i]? =some t)(hr:r=Ym n mk t)(hb:r.2=true)(hj:0≤YA QT r.1∧j=YA QT r.1):Qae n f k (goT n k mk (ts.drop i) (QT,v,b))=Qae n f k (goT n k mk (ts.drop (i+1)) (QT,v++[((k:Int),t,j)],b)):=by
  subst hr
  rw[YC hx,goT,if_neg (by rw[hb]; decide),if_pos hj.1,hj.2]
theorem XJ (hx:ts[i]? =some t)(hr:r=Ym n mk t)(hb:r.2=true)(hj:¬0≤YA QT r.1)(hl:(QT.length:Int)=300):Qae n f k (goT n k mk (ts.drop i) (QT,v,b))=((QT,v,b),(-1, -1,false)):=by
  subst hr
  rw[YC hx,goT,if_neg (by rw[hb]; decide),if_neg hj,if_pos (show QT.length=300 by omega)]
  rfl
theorem Qc4 (hx:ts[i]? =some t)(hr:r=Ym n mk t)(hb:r.2=true)(hj:¬0≤YA QT r.1)(hl:¬(QT.length:Int)=300):Qae n f k (goT n k mk (ts.drop i) (QT,v,b))=Qae n f k (goT n k mk (ts.drop (i+1)) (QT++[r.1],v++[((k:Int),t,(QT.length:Int))],b++[((k:Int),t,(QT.length:Int))])):=by
  subst hr
  rw[YC hx,goT,if_neg (by rw[hb]; decide),if_neg hj,if_neg (show¬QT.length=300 by omega)]
theorem Qld (hi:ts.length≤i)(hk:k < 300):Qae n (300 - k) k (goT n k mk (ts.drop i) (QT,v,b))=goK n (301 - (k+1)) (k+1) (QT,v,b):=by
  rw[bk hi,goT,show 301 - (k+1)=300 - k by omega]
  rfl
theorem Qoq (hx:QT[k]? =some mk)(hk:k < 300):goK n (301 - k) k (QT,v,b)=Qae n (300 - k) k (goT n k mk (Zl n mk) (QT,v,b)):=by
  rw[show 301 - k=(300 - k)+1 by omega,goK]
  simp only[hx]
  rfl
theorem WQ (hk:QT.length≤k):goK n f k (QT,v,b)=((QT,v,b),(-1, -1,true)):=by
  cases f with
  | zero=>rfl
  | succ f=>
    rw[goK]
    simp only[bB hk]
theorem Wl (h:∃b,Yt s=((QT,v,b),e)):exV s=((QT,v),e):=by
  obtain ⟨b,h⟩:=h
  unfold exV; rw[h]
theorem Qky (h:Yt s=((QT,v,b),e)):l4V s=((QT,v),b,(if 0≤e.2.1 then e.1 else 0),e.2.1,(!e.2.2&&decide (e.2.1 < 0))):=by
  unfold l4V; rw[h]
theorem Hi (h:Yt s=((QT,v,b),((k:Int),t,false)))(h0:0≤t):l4V s=((QT,v),b,(k:Int),t,false):=by
  rw[Qky h]
  simp[h0]
theorem Ku (h:Yt s=((QT,v,b),(-1, -1,false))):l4V s=((QT,v),b,0, -1,true):=by
  rw[Qky h]; rfl
theorem QbQ (h:Yt s=((QT,v,b),(-1, -1,true))):l4V s=((QT,v),b,0, -1,false):=by
  rw[Qky h]; rfl
theorem Qn7 {m:ByteArray}{n:Int}(h:W8 m n){p:Int}(h0:0≤p)(h1:p < n):(0≤p∧p < m.size)∧(bAt m p=48∨bAt m p=49):=by
  obtain ⟨h2,h3⟩:=h
  have hp:p.toNat < m.size:=by omega
  refine ⟨⟨h0,by omega⟩, ?_⟩
  have e:bAt m p=m[p.toNat]:=by unfold bAt; rw[getElem?_pos m p.toNat hp]; rfl
  rw[e]
  rcases h2 p.toNat hp hp with h | h
  · exact .inl (UInt8.toNat_inj.1 h)
  · exact .inr (UInt8.toNat_inj.1 h)
theorem Qf2 {m:ByteArray}{n:Int}(h:W8 m n){ps:List Int}(hr:JX ps (n - 1)):U4 m ps:=fun p hp=>by
  obtain ⟨j,hj⟩:=aS.1 hp
  have:=(hr j (au.1 hj).1 p hj).1
  exact Qn7 h (by omega) (by omega)
theorem Qjt (hv:Xv n)(h:W8 mk n.1):∀t∈n.2,U4 mk t.1∧U4 mk t.2:=fun t ht=>⟨Qf2 h (hv.2.2 t ht).2.1,Qf2 h (hv.2.2 t ht).2.2⟩
theorem Yk (hx:(Zl n mk)[i]? =some t):Yy n mk t=Ym n mk t:=by
  obtain ⟨x,h1,h2,h3,h4,h5⟩:=QbT (ai hx)
  exact QqF h1 h4 h5
theorem YW (hx:(Zl n mk)[i]? =some t):0≤t∧t < n.2.length:=by
  obtain ⟨x,h1,h2,_⟩:=QbT (ai hx)
  exact ⟨h1,h2⟩
theorem Uv (n:Xj)(mk:ByteArray):(Zl n mk).length≤n.2.length:=Qca _ _ _
def LBits (l:List UInt8):Prop:=∀c∈l,c=48∨c=49
theorem LBits.set {l:List UInt8}(h:LBits l){c:UInt8}(hc:c=48∨c=49)(i:Nat):LBits (l.set i c):=fun d hd=>by
  rcases c9 hd with h1 | h1
  · exact h d h1
  · rw[h1]; exact hc
theorem LBits.clr {l:List UInt8}(h:LBits l)(ps:List Int):LBits (clr l ps):=by
  induction ps generalizing l with
  | nil=>exact h
  | cons p ps ih=>exact ih (h.set (.inl rfl) _)
theorem LBits.put {l l':List UInt8}(h:LBits l){ps:List Int}(hp:K6 l ps=some l'):LBits l'∧l'.length=l.length:=by
  induction ps generalizing l with
  | nil=>rw[K6] at hp; cases hp; exact ⟨h,rfl⟩
  | cons p ps ih=>
    rw[K6] at hp
    split at hp
    · cases hp
    · obtain ⟨h1, h2⟩ := ih (h.set (.inr rfl) _) hp
      exact ⟨h1,by rw[h2,aq]⟩
theorem QmV {m:ByteArray}{n:Int}(h:W8 m n):LBits m.toList:=fun c hc=>by
  rw[bW] at hc
  obtain ⟨i,hi,e⟩:=List.getElem_of_mem hc
  have h2:i < m.size:=by simpa using hi
  have h3:=h.1 i h2 h2
  have h4:m[i]=c:=by rw[← e]; rfl
  rw[h4] at h3
  rcases h3 with h | h
  · exact .inl (UInt8.toNat_inj.1 h)
  · exact .inr (UInt8.toNat_inj.1 h)
theorem Qml {l:List UInt8}{n:Int}(h:LBits l)(hl:(l.length:Int)=n):W8 ⟨l.toArray⟩ n:=by
  refine ⟨fun k hk hk'=> ?_,by rw[← hl]; rfl⟩
  have h1:(⟨l.toArray⟩:ByteArray)[k]∈l:=by
    show l.toArray[k]∈l
    simp
  rcases h _ h1 with h | h
  · exact .inl (by rw[h]; rfl)
  · exact .inr (by rw[h]; rfl)
theorem Ug (hm:W8 mk n.1)(hr:r=Ym n mk t)(h:r.2=true):W8 r.1 n.1:=by
  subst hr
  unfold Ym at h ⊢
  cases hx:n.2[t.toNat]? with
  | none=>rw[hx] at h; cases h
  | some x=>
    rw[hx] at h
    simp only at h ⊢
    unfold KU at h ⊢
    cases hp:K6 (clr mk.toList x.1) x.2 with
    | none=>rw[hp] at h; cases h
    | some l=>
      obtain ⟨h1,h2⟩:=((QmV hm).clr x.1).put hp
      refine Qml h1 ?_
      rw[h2,QpR,Qe5]
      exact hm.2
theorem Qa4 {p:ByteArray→Prop}(h:∀m∈QT,p m)(hx:p x):∀m∈QT++[x],p m:=fun m hm=>by
  rcases aJ.1 hm with h1 | h1
  · exact h m h1
  · rw[aM.1 h1]; exact hx
theorem Qht (h:QT[k]? =some mk):(QT++[x])[k]? =some mk:=by
  rw[bU (au.1 h).1]; exact h
end
theorem JF (QT:List ByteArray)(m:ByteArray):FC Tryz.prog 308 [(false,[.dat Zr QT]),(false,[dS m])] [] 0 (Yj (lI (YA QT m))):=by
 refine QO Tryz.func308 rfl rfl Tryz.ntmps308 fun O_ hO w0_ N0_ X_ h0_ f0_=> ?_
 iterate 6 refine w_ ?_
 refine AL.fact (Qo (x:= .tmp 7) (Qa rfl)) fun hl1=> ?_
 iterate 4 refine w_ ?_
 refine Qu (fun m_ s_=>∃(k:Nat),k≤QT.length∧m_=QT.length - k∧(NoneTo (fun y=>decide (y=m)) QT k)∧s_=⟨[(1,lf (dS m)),(7,lf (.dat Zr QT)),(8,lI (QT.length:Int)),(9,lI (k:Int))],[]⟩) ⟨0,aw _,rfl,NoneTo.zero,rfl⟩ ?_ ?_
 exact wo []
 rintro m_ s_ ⟨k,hk2,hm3,hno,rfl⟩
 iterate 4 refine w_ ?_
 cases hb4:(decide ((k:Int) < (QT.length:Int)))
 have hb4':=a7 hb4
 iterate 7 refine w_ ?_
 subst hO
 have e5:((-1):Int)=(YA QT m):=by
  first | exact (hno.no (by omega)).symm
 exact Qi (Qg rfl (Qd rfl)) (by rw[← e5] <;> rfl) rfl
 have hb4':=a8 hb4
 iterate 6 refine w_ ?_
 obtain ⟨x6,hx7⟩:=gx QT k
 refine lc (Qh (Qa rfl) (Qa rfl) Zo Zg rfl (by omega) hx7) ?_
 iterate 9 refine w_ ?_
 cases hb8:(decide (x6=m))
 have hb8':=a7 hb8
 iterate 6 refine w_ ?_
 refine Qm<|QV ⟨k+1,by omega,rfl,hno.step hx7 ‹_›,rfl⟩ (by omega) ?_
 exact wo []
 have hb8':=a8 hb8
 iterate 6 refine w_ ?_
 subst hO
 have e9:((k:Int):Int)=(YA QT m):=by
  exact (hno.at hx7 ‹_›).symm
 exact Qi (Qg rfl (Qd rfl)) (by rw[e9] <;> rfl) rfl
theorem Qch (s:(Int×(List (List Int×List Int)))×(List (ByteArray×Int))×(List (Int×Bool))×ByteArray)(hs:StgOk s):FC Tryz.prog 291 [(true,[dI s.1.1, .dat QZ s.1.2, .dat QJ s.2.1, .dat QR s.2.2.1,dS s.2.2.2])] [] 0 (Is (PV.tup [(true,[.ref 0, .ref 1]),(false,[dI ((exV s).2.1)]),(false,[dI ((exV s).2.2.1)]),(false,[dB ((exV s).2.2.2)])]) [(0,some (.arr 9 .str (((exV s).1).1))),(1,some (.arr 229 ZZ (((exV s).1).2)))]):=by
 have hnl:=hs.net.2.1
 refine QO Tryz.func291 rfl rfl Tryz.ntmps291 fun O_ hO w0_ N0_ X_ h0_ f0_=> ?_
 refine AC.fact (QI (x:= .tmp 0) (i:=0) (Qb rfl) rfl) fun hi1=> ?_
 refine w_ ?_
 refine lc (Qy 0 (Qb rfl) rfl rfl (Fresh.of rfl) (nlr rfl))<|lc (Qj 1 QeK Wf rfl rfl (Fresh.of rfl) (nlr rfl)) ?_
 iterate 4 refine w_ ?_
 refine dw [io 15 (lP 0 4),io 16 (lf (dS s.2.2.2)),⟨some 17,lR 2,[(2,some (.arr 9 .str ([s.2.2.2])))]⟩,io 18 (ag [.ref 2, .val (.slice none 0 0)]),⟨some 19,lR 3,[(3,some (.mp false .str false .int ([])))]⟩,io 20 (lP 0 4),io 21 (lf (dS s.2.2.2)),⟨none,lf (.val undef),[(3,some (.mp false .str false .int (Wa .str ([]) s.2.2.2 0)))]⟩,io 22 (lR 3),⟨some 6,lP 4 0,[(4,some (.box 164 [.val (.slice none 0 0), .val (.slice none 0 0)]))]⟩,⟨none,lf (.val undef),[(4,some (.box 164 [.ref 2, .val (.slice none 0 0)]))]⟩,io 7 (lR 3)] [0,1,3,7,0,0,32,112,240,0,527,2047] mixed rfl (by kernel_rfl) ⟨dxf XQ rfl rfl rfl,dxl Zg rfl rfl rfl rfl rfl,fun _ h_=>ac (Qf 2 (e:= .str) Zo Zg H8 rfl ⟨_,_,rfl,(h_.w rfl),rfl⟩ (ae.1 rfl) ⟨_,_,_,_,rfl,⟨rfl,rfl⟩,⟨rfl,rfl⟩,rfl⟩ (by decide) rfl rfl (h_.fr 2 rfl) (nlr rfl)) rfl,fun _ h_=>ac (QA K2 ⟨_,_,rfl,(h_.w rfl),rfl⟩ (ae.1 (by simp only[ZB,X7,aQ,b8]; rw[(h_.en 2 rfl)]; rfl)) rfl rfl) rfl,fun _ h_=>ac (QaZ (kt:=9) (et:=3) (kb:=false) (k:= .str) (vb:=false) (v:= .int) 3 rfl (h_.fr 3 rfl) (nlr rfl)) rfl,dxf XQ rfl rfl rfl,dxl Zg rfl rfl rfl rfl rfl,fun _ h_=>ac (QiZ Qlq Qhz (h_.v rfl) (h_.n 3 rfl) (h_.w rfl) (p:=s.2.2.2) rfl (Evl.ev (Qv rfl)) (u:=0) rfl) rfl,dxm rfl rfl,fun _ h_=>ac (Qj 4 QeK Wf rfl rfl (h_.fr 4 rfl) (nlr rfl)) rfl,fun _ h_=>ac (Qc (h_.v rfl) (h_.en 4 rfl) (h_.w rfl) (by simp only[ZB,X7,aQ,b8]; rw[(h_.en 2 rfl)]; rfl) ZM rfl) rfl,dxt rfl rfl,⟨⟩⟩ ?_
 iterate 5 refine w_ ?_
 refine AC.wk (QF 6 (p:=4) (off:=1) 229 ZZ rfl rfl (Fresh.of rfl) (nlr rfl)) ?_
 refine Qu (fun m_ s_=>∃(k:Nat) (QT:List ByteArray) (moves:List (Int×Int×Int)) (idx:List (ByteArray×Int)),k≤300∧m_=300 - k∧(∃b,Yt s=goK s.1 (301 - k) k (QT,moves,b))∧(∀m∈QT,W8 m s.1.1)∧(QT.length≤300)∧(moves.length≤24*k)∧(IdxOf QT idx)∧s_=⟨[(1,lP 0 0),(2,lP 1 0),(6,lP 4 0),(7,lR 8),(8,lI (k:Int))],[(0,some (.box 29 [dI s.1.1, .dat QZ s.1.2, .dat QJ s.2.1, .dat QR s.2.2.1,dS s.2.2.2])),(1,some (.box 164 [.val (.slice none 0 0), .val (.slice none 0 0)])),(4,some (.box 164 [.ref 5, .ref 7])),(5,some (.arr 9 .str QT)),(7,some (.arr 229 ZZ moves)),(8,some (.mp false .str false .int idx))]⟩) ⟨0,[s.2.2.2],([]:(Xu:Ty).Den),Wa .str ([]) s.2.2.2 0,aw _,rfl,⟨_,rfl⟩,(by intro m hm; rw[aM.1 hm]; exact hs.bits),(aC rfl),(aC rfl),IdxOf.one _,rfl⟩ ?_ ?_
 exact wp [(0,0),(1,1),(4,4),(5,2),(7,6),(8,3)] ⟨rfl,rfl,rfl,(Qp (by first | rfl | simp)),(Qp (by first | rfl | simp)),(QqI (by first | rfl | simp)),trivial⟩
 rintro m_ s_ ⟨k,QT,moves,idx,hk2,hm3,hA,hB,hl,hv,hI,rfl⟩
 iterate 8 refine w_ ?_
 cases hb4:(decide ((k:Int) < (QT.length:Int)))
 have hb4':=a7 hb4
 iterate 5 refine w_ ?_
 refine lc (Qc (Qa rfl) rfl (Qb rfl) rfl ZM rfl) ?_
 iterate 5 refine w_ ?_
 subst hO
 have e5:((-1):Int)=((exV s).2.1):=by
  (rw[Wl (hA.elim fun b h=>⟨_,h.trans (WQ (by omega))⟩)]; done)
 have e6:((-1):Int)=((exV s).2.2.1):=by
  (rw[Wl (hA.elim fun b h=>⟨_,h.trans (WQ (by omega))⟩)]; done)
 have e7:(true:Bool)=((exV s).2.2.2):=by
  (rw[Wl (hA.elim fun b h=>⟨_,h.trans (WQ (by omega))⟩)]; done)
 exact QD _ _ [(0,5),(1,7)] (QeM rfl (QG rfl rfl ZM rfl) (Qd rfl) (Qd rfl) (Qd rfl)) (by rw[← e5,← e6,← e7] <;> rfl) ⟨(Qp (by (rw[Wl (hA.elim fun b h=>⟨_,h.trans (WQ (by omega))⟩)]; done))),(Qp (by (rw[Wl (hA.elim fun b h=>⟨_,h.trans (WQ (by omega))⟩)]; done))),trivial⟩ rfl rfl
 have hb4':=a8 hb4
 iterate 4 refine w_ ?_
 obtain ⟨mk,hx9⟩:=gx QT k
 have hbm:=hB _ (ai hx9)
 have hnp:=Qjt hs.net hbm
 have hel:=Uv s.1 mk
 refine dw [io 30 (lP 0 0),io 31 (ag [dI s.1.1, .dat QZ s.1.2]),io 32 (lP 4 0),io 33 (lR 5),io 34 (lI (k:Int)),io 35 (lf (.ept 5 1 k 0)),io 36 (lf (dS mk)),io 37 (lf (.dat Qs (Zl s.1 mk))),io 38 (lI ((Zl s.1 mk).length:Int)),io 39 (lI 0)] [0,1,0,4,0,28,60,127,255,0] mixed rfl (by kernel_rfl) ⟨dxf Z1 rfl rfl rfl,dxa YD rfl rfl rfl rfl,dxf V5 rfl rfl rfl,dxl XS rfl rfl rfl rfl rfl,dxm rfl rfl,fun _ h_=>ac (Qw (e:= .str) (h_.v rfl) (h_.en 5 rfl) (h_.v rfl) Zo Zg rfl (by omega) (by first | omega | (simp only[aq]; omega))) rfl,fun _ h_=>ac (QP (e:= .str) (h_.v rfl) (h_.n 5 rfl) hx9 rfl Zg rfl rfl) rfl,fun _ h_=>ac (Ql (Jj s.1 mk hnp (by omega)).frozen QdY ⟨_,_,rfl,(h_.w rfl),⟨_,_,rfl,(h_.w rfl),rfl⟩⟩ rfl rfl) rfl,fun _ h_=>ac (WO (h_.v rfl) rfl QN) rfl,fun _ h_=>ac (QaE (Qv rfl) rfl) rfl,⟨⟩⟩ ?_
 refine w_ ?_
 refine Qu (fun m_ s_=>∃(i:Nat) (marks2:List ByteArray) (moves2:List (Int×Int×Int)) (idx2:List (ByteArray×Int)),i≤(Zl s.1 mk).length∧m_=(Zl s.1 mk).length - i∧(∃b,Yt s=Qae s.1 (300 - k) k (goT s.1 k mk ((Zl s.1 mk).drop i) (marks2,moves2,b)))∧(∀m∈marks2,W8 m s.1.1)∧(marks2.length≤300)∧(marks2[k]? =some mk)∧(moves2.length≤24*k+i)∧(IdxOf marks2 idx2)∧s_=⟨[(1,lP 0 0),(2,lP 1 0),(6,lP 4 0),(7,lR 11),(8,lI (k:Int)),(23,lI (k:Int)),(24,lP 4 0),(26,lI (QT.length:Int)),(27,lB true),(30,lP 0 0),(31,ag [dI s.1.1, .dat QZ s.1.2]),(32,lP 4 0),(34,lI (k:Int)),(36,lf (dS mk)),(37,lf (.dat Qs (Zl s.1 mk))),(38,lI ((Zl s.1 mk).length:Int)),(39,lI (i:Int))],[(0,some (.box 29 [dI s.1.1, .dat QZ s.1.2, .dat QJ s.2.1, .dat QR s.2.2.1,dS s.2.2.2])),(1,some (.box 164 [.val (.slice none 0 0), .val (.slice none 0 0)])),(4,some (.box 164 [.ref 9, .ref 10])),(9,some (.arr 9 .str marks2)),(10,some (.arr 229 ZZ moves2)),(11,some (.mp false .str false .int idx2))]⟩) ⟨0,QT,moves,idx,aw _,rfl,hA.elim fun b h=>⟨_,h.trans (Qoq hx9 (by omega))⟩,hB,hl,hx9,(by omega),hI,rfl⟩ ?_ ?_
 exact wo [(0,0),(1,1),(4,4),(9,5),(10,7),(11,8)]
 rintro m_ s_ ⟨i,marks2,moves2,idx2,hk10,hm11,hA2,hB2,hl2,hM2,hv2,hI2,rfl⟩
 have hk2:=(au.1 hM2).1
 iterate 4 refine w_ ?_
 cases hb12:(decide ((i:Int) < ((Zl s.1 mk).length:Int)))
 have hb12':=a7 hb12
 iterate 7 refine w_ ?_
 refine Qm<|QV ⟨k+1,marks2,moves2,idx2,by omega,rfl,hA2.elim fun b h=>⟨_,h.trans (Qld (by omega) (by omega))⟩,hB2,hl2,(by omega),hI2,rfl⟩ (by omega) ?_
 exact wo [(0,0),(1,1),(4,4),(5,9),(7,10),(8,11)]
 have hb12':=a8 hb12
 iterate 5 refine w_ ?_
 obtain ⟨x13,hx14⟩:=gx (Zl s.1 mk) i
 refine lc (Qh (Qa rfl) (Qa rfl) QN QL rfl (by omega) hx14) ?_
 refine w_ ?_
 refine AL.fact (QC (x:= .tmp 42) (Qa rfl)) fun hi15=> ?_
 iterate 2 refine w_ ?_
 refine dw [io 44 (lP 0 0),io 45 (ag [dI s.1.1, .dat QZ s.1.2]),io 46 (lP 4 0),io 47 (lR 9),io 48 (lI (k:Int)),io 49 (lf (.ept 9 1 k 0)),io 50 (lf (dS mk)),io 51 (lI x13),io 52 (PV.tup [(false,[dS ((Yy s.1 mk x13).1)]),(false,[dB ((Yy s.1 mk x13).2)])]),io 43 (PV.tup [(false,[dS ((Yy s.1 mk x13).1)]),(false,[dB ((Yy s.1 mk x13).2)])]),io 53 (lf (dS ((Yy s.1 mk x13).1))),io 54 (lB ((Yy s.1 mk x13).2)),io 11 (lf (dS ((Yy s.1 mk x13).1))),io 12 (lB ((Yy s.1 mk x13).2))] [0,1,0,4,0,28,60,0,255,511,1023,1023,2047,8191] mixed rfl (by kernel_rfl) ⟨dxf Z1 rfl rfl rfl,dxa YD rfl rfl rfl rfl,dxf V5 rfl rfl rfl,dxl XS rfl rfl rfl rfl rfl,dxm rfl rfl,fun _ h_=>ac (Qw (e:= .str) (h_.v rfl) (h_.en 9 rfl) (h_.v rfl) Zo Zg rfl (by omega) (by first | omega | (simp only[aq]; omega))) rfl,fun _ h_=>ac (QP (e:= .str) (h_.v rfl) (h_.n 9 rfl) hM2 rfl Zg rfl rfl) rfl,dxm rfl rfl,fun _ h_=>ac (Ql (Qhe s.1 mk x13 hnp (by omega)) Qjc ⟨_,_,rfl,(h_.w rfl),⟨_,_,rfl,(h_.w rfl),⟨_,_,rfl,(h_.w rfl),rfl⟩⟩⟩ rfl rfl) rfl,dxm rfl rfl,fun _ h_=>ac (YI (h_.k rfl) rfl rfl) rfl,fun _ h_=>ac (YI (h_.k rfl) rfl rfl) rfl,dxt rfl rfl,dxt rfl rfl,⟨⟩⟩ ?_
 iterate 5 refine w_ ?_
 cases hb16:((Yy s.1 mk x13).2)
 iterate 5 refine w_ ?_
 refine lc (Qc (Qa rfl) rfl (Qb rfl) rfl ZM rfl) ?_
 iterate 5 refine w_ ?_
 subst hO
 have e17:((k:Int):Int)=((exV s).2.1):=by
  (rw[Wl (hA2.elim fun b h=>⟨_,h.trans (WL hx14 (Yk hx14) ‹_›)⟩)]; done)
 have e18:(x13:Int)=((exV s).2.2.1):=by
  (rw[Wl (hA2.elim fun b h=>⟨_,h.trans (WL hx14 (Yk hx14) ‹_›)⟩)]; done)
 have e19:(false:Bool)=((exV s).2.2.2):=by
  (rw[Wl (hA2.elim fun b h=>⟨_,h.trans (WL hx14 (Yk hx14) ‹_›)⟩)]; done)
 exact QD _ _ [(0,9),(1,10)] (QeM rfl (QG rfl rfl ZM rfl) (Qd rfl) (Qd rfl) (Qd rfl)) (by rw[e17,← e18,← e19] <;> rfl) ⟨(Qp (by (rw[Wl (hA2.elim fun b h=>⟨_,h.trans (WL hx14 (Yk hx14) ‹_›)⟩)]; done))),(Qp (by (rw[Wl (hA2.elim fun b h=>⟨_,h.trans (WL hx14 (Yk hx14) ‹_›)⟩)]; done))),trivial⟩ rfl rfl
 iterate 5 refine w_ ?_
 refine lc (Qfl Qlq Qhz QsS (Qa rfl) rfl (Qb rfl) (p:=(Yy s.1 mk x13).1) rfl rfl rfl) ?_
 iterate 11 refine w_ ?_
 cases hb20:((WI .str idx2 ((Yy s.1 mk x13).1)).isSome)
 iterate 8 refine w_ ?_
 cases hb21:(decide ((marks2.length:Int)=300))
 have hb21':=a7 hb21
 iterate 12 refine w_ ?_
 refine lc (JS Qlq Qhz (Qa rfl) rfl (Qb rfl) (p:=(Yy s.1 mk x13).1) rfl (Qb rfl) (u:=(marks2.length:Int)) rfl) ?_
 iterate 5 refine w_ ?_
 refine lc (Qf 12 (e:= .str) Zo Zg H8 rfl ⟨_,_,rfl,(Qb rfl),rfl⟩ (ae.1 rfl) ⟨_,_,_,_,rfl,⟨rfl,rfl⟩,⟨rfl,rfl⟩,rfl⟩ (by decide) rfl rfl (Fresh.of rfl) (nlr rfl))<|lc (QH 13 (Qa rfl) rfl (Qa rfl) rfl rfl Zo Qgn (by first | omega | (simp only[aa,av,ab,ah,aj]; omega) | (simp only[aa,ay,ab,ah,aj]; omega)) rfl (Fresh.of rfl) (nlr rfl)) ?_
 refine w_ ?_
 refine lc (Qc (Qa rfl) rfl (Qb rfl) rfl XS rfl) ?_
 iterate 7 refine w_ ?_
 refine lc (QA HJ ⟨_,_,rfl,(Qb rfl),⟨_,_,rfl,(Qb rfl),⟨_,_,rfl,(Qb rfl),rfl⟩⟩⟩ (ae.1 rfl) rfl rfl)<|lc (Qf 14 (e:=ZZ) Ys Yc Xm rfl ⟨_,_,rfl,(Qb rfl),rfl⟩ (ae.1 rfl) ⟨_,_,_,_,rfl,⟨[dI (k:Int)],[dI x13,dI (marks2.length:Int)],_,_,_,_,rfl,rfl,⟨rfl,rfl⟩,⟨[dI x13],[dI (marks2.length:Int)],_,_,_,_,rfl,rfl,⟨rfl,rfl⟩,⟨rfl,rfl⟩,rfl⟩,rfl⟩,⟨rfl,rfl⟩,rfl⟩ (by decide) rfl rfl (Fresh.of rfl) (nlr rfl))<|lc (QH 15 (Qa rfl) rfl (Qa rfl) rfl rfl Ys Hm (by first | omega | (simp only[aa,av,ab,ah,aj]; omega) | (simp only[aa,ay,ab,ah,aj]; omega)) rfl (Fresh.of rfl) (nlr rfl)) ?_
 refine w_ ?_
 refine lc (Qc (Qa rfl) rfl (Qb rfl) rfl QbP rfl)<|Qm ?_
 iterate 4 refine w_ ?_
 refine Qm<|QV ⟨i+1,(marks2++([(Yy s.1 mk x13).1])),(moves2++([((k:Int),x13,(marks2.length:Int))])),(Wa .str idx2 ((Yy s.1 mk x13).1) (marks2.length:Int)),by omega,rfl,by first | exact hA2.elim fun b h=>⟨_,h.trans (Qdh hx14 (Yk hx14) ‹_› (hI2.old ‹_›))⟩ | exact hA2.elim fun b h=>⟨_,h.trans (Qc4 hx14 (Yk hx14) ‹_› (hI2.new ‹_›) ‹_›)⟩,by first | exact hB2 | exact Qa4 hB2 (Ug (hB2 _ (ai hM2)) (Yk hx14) ‹_›),(by (simp only[aa,ah,aj]; omega)),by first | exact hM2 | exact Qht hM2,(by simp only[aa,ah,aj]; omega),by first | exact hI2 | exact hI2.set ‹_›,rfl⟩ (by omega) ?_
 exact wp [(0,0),(1,1),(4,4),(9,13),(10,15),(11,11)] ⟨rfl,rfl,rfl,(Qp (by first | rfl | simp)),(Qp (by first | rfl | simp)),(QqI (by first | rfl | simp)),trivial⟩
 have hb21':=a8 hb21
 iterate 3 refine w_ ?_
 refine lc (Qc (Qa rfl) rfl (Qb rfl) rfl ZM rfl) ?_
 iterate 5 refine w_ ?_
 subst hO
 have e22:((-1):Int)=((exV s).2.1):=by
  (rw[Wl (hA2.elim fun b h=>⟨_,h.trans (XJ hx14 (Yk hx14) ‹_› (hI2.new ‹_›) ‹_›)⟩)]; done)
 have e23:((-1):Int)=((exV s).2.2.1):=by
  (rw[Wl (hA2.elim fun b h=>⟨_,h.trans (XJ hx14 (Yk hx14) ‹_› (hI2.new ‹_›) ‹_›)⟩)]; done)
 have e24:(false:Bool)=((exV s).2.2.2):=by
  (rw[Wl (hA2.elim fun b h=>⟨_,h.trans (XJ hx14 (Yk hx14) ‹_› (hI2.new ‹_›) ‹_›)⟩)]; done)
 exact QD _ _ [(0,9),(1,10)] (QeM rfl (QG rfl rfl ZM rfl) (Qd rfl) (Qd rfl) (Qd rfl)) (by rw[← e22,← e23,← e24] <;> rfl) ⟨(Qp (by (rw[Wl (hA2.elim fun b h=>⟨_,h.trans (XJ hx14 (Yk hx14) ‹_› (hI2.new ‹_›) ‹_›)⟩)]; done))),(Qp (by (rw[Wl (hA2.elim fun b h=>⟨_,h.trans (XJ hx14 (Yk hx14) ‹_› (hI2.new ‹_›) ‹_›)⟩)]; done))),trivial⟩ rfl rfl
 iterate 8 refine w_ ?_
 refine lc (QA HJ ⟨_,_,rfl,(Qb rfl),⟨_,_,rfl,(Qb rfl),⟨_,_,rfl,(Qb rfl),rfl⟩⟩⟩ (ae.1 rfl) rfl rfl)<|lc (Qf 16 (e:=ZZ) Ys Yc Xm rfl ⟨_,_,rfl,(Qb rfl),rfl⟩ (ae.1 rfl) ⟨_,_,_,_,rfl,⟨[dI (k:Int)],[dI x13,dI ((WI .str idx2 ((Yy s.1 mk x13).1)).getD (Ty.zero .int))],_,_,_,_,rfl,rfl,⟨rfl,rfl⟩,⟨[dI x13],[dI ((WI .str idx2 ((Yy s.1 mk x13).1)).getD (Ty.zero .int))],_,_,_,_,rfl,rfl,⟨rfl,rfl⟩,⟨rfl,rfl⟩,rfl⟩,rfl⟩,⟨rfl,rfl⟩,rfl⟩ (by decide) rfl rfl (Fresh.of rfl) (nlr rfl))<|lc (QH 17 (Qa rfl) rfl (Qa rfl) rfl rfl Ys Hm (by first | omega | (simp only[aa,av,ab,ah,aj]; omega) | (simp only[aa,ay,ab,ah,aj]; omega)) rfl (Fresh.of rfl) (nlr rfl)) ?_
 refine w_ ?_
 refine lc (Qc (Qa rfl) rfl (Qb rfl) rfl QbP rfl)<|Qm ?_
 iterate 4 refine w_ ?_
 refine Qm<|QV ⟨i+1,marks2,(moves2++([((k:Int),x13,(WI .str idx2 ((Yy s.1 mk x13).1)).getD (Ty.zero .int))])),idx2,by omega,rfl,by first | exact hA2.elim fun b h=>⟨_,h.trans (Qdh hx14 (Yk hx14) ‹_› (hI2.old ‹_›))⟩ | exact hA2.elim fun b h=>⟨_,h.trans (Qc4 hx14 (Yk hx14) ‹_› (hI2.new ‹_›) ‹_›)⟩,by first | exact hB2 | exact Qa4 hB2 (Ug (hB2 _ (ai hM2)) (Yk hx14) ‹_›),(by omega),by first | exact hM2 | exact Qht hM2,(by simp only[aa,ah,aj]; omega),by first | exact hI2 | exact hI2.set ‹_›,rfl⟩ (by omega) ?_
 exact wp [(0,0),(1,1),(4,4),(9,9),(10,17),(11,11)] ⟨rfl,rfl,rfl,rfl,(Qp (by first | rfl | simp)),rfl,trivial⟩
theorem QcN (s:(Int×(List (List Int×List Int)))×(List (ByteArray×Int))×(List (Int×Bool))×ByteArray)(hs:StgOk s):FC Tryz.prog 230 [(true,[dI s.1.1, .dat QZ s.1.2, .dat QJ s.2.1, .dat QR s.2.2.1,dS s.2.2.2])] [] 0 (Is (ag [.ref 0, .ref 1, .ref 2,dI ((l4V s).2.2.1),dI ((l4V s).2.2.2.1),dB ((l4V s).2.2.2.2)]) [(0,some (.arr 9 .str (((l4V s).1).1))),(1,some (.arr 229 ZZ (((l4V s).1).2))),(2,some (.arr 229 ZZ ((l4V s).2.1)))]):=by
 have hnl:=hs.net.2.1
 refine QO Tryz.func230 rfl rfl Tryz.ntmps230 fun O_ hO w0_ N0_ X_ h0_ f0_=> ?_
 refine AC.fact (QI (x:= .tmp 0) (i:=0) (Qb rfl) rfl) fun hi1=> ?_
 refine w_ ?_
 refine lc (Qy 0 (Qb rfl) rfl rfl (Fresh.of rfl) (nlr rfl))<|lc (Qj 1 Qrw Qdb rfl rfl (Fresh.of rfl) (nlr rfl)) ?_
 iterate 4 refine w_ ?_
 refine lc (Qf 2 (e:= .str) Zo Zg H8 rfl ⟨_,_,rfl,(Qb rfl),rfl⟩ (ae.1 rfl) ⟨_,_,_,_,rfl,⟨rfl,rfl⟩,⟨rfl,rfl⟩,rfl⟩ (by decide) rfl rfl (Fresh.of rfl) (nlr rfl))<|lc (QA K2 ⟨_,_,rfl,(Qb rfl),rfl⟩ (ae.1 rfl) rfl rfl)<|lc (QA HJ rfl (ae.1 rfl) rfl rfl)<|lc (Qf 3 (e:=ZZ) Ys Yc Xm rfl ⟨_,_,rfl,(Qb rfl),rfl⟩ (ae.1 rfl) ⟨_,_,_,_,rfl,⟨[dI 0],[dI 0,dI 0],_,_,_,_,rfl,rfl,⟨rfl,rfl⟩,⟨[dI 0],[dI 0],_,_,_,_,rfl,rfl,⟨rfl,rfl⟩,⟨rfl,rfl⟩,rfl⟩,rfl⟩,⟨rfl,rfl⟩,rfl⟩ (by decide) rfl rfl (Fresh.of rfl) (nlr rfl))<|lc (QA QqA ⟨_,_,rfl,(Qb rfl),⟨_,_,rfl,(Qb rfl),⟨_,_,rfl,(Evl.ev (Qv rfl)),rfl⟩⟩⟩ (ae.1 rfl) rfl rfl)<|lc (Qj 4 Qrw Qdb rfl rfl (Fresh.of rfl) (nlr rfl))<|lc (Qc (Qa rfl) rfl (Qb rfl) rfl UN rfl) ?_
 iterate 6 refine w_ ?_
 refine AC.wk (QF 6 (p:=4) (off:=1) 229 ZZ rfl rfl (Fresh.of rfl) (nlr rfl)) ?_
 refine Qu (fun m_ s_=>∃(k:Nat) (QT:List ByteArray) (moves:List (Int×Int×Int)) (by_:List (Int×Int×Int)),k≤300∧m_=300 - k∧(Yt s=goK s.1 (301 - k) k (QT,moves,by_))∧(∀m∈QT,W8 m s.1.1)∧(QT.length≤300)∧(moves.length≤24*k)∧(by_.length≤24*k+1)∧s_=⟨[(1,lP 0 0),(2,lP 1 0),(3,lP 4 0),(4,lI (k:Int))],[(0,some (.box 29 [dI s.1.1, .dat QZ s.1.2, .dat QJ s.2.1, .dat QR s.2.2.1,dS s.2.2.2])),(1,some (.box 255 [.val (.slice none 0 0), .val (.slice none 0 0), .val (.slice none 0 0),dI 0,dI 0,dB false])),(4,some (.box 255 [.ref 5, .ref 7, .ref 8,dI 0,dI (-1),dB false])),(5,some (.arr 9 .str QT)),(7,some (.arr 229 ZZ moves)),(8,some (.arr 229 ZZ by_))]⟩) ⟨0,[s.2.2.2],([]:(Xu:Ty).Den),[(0,0,0)],aw _,rfl,rfl,(by intro m hm; rw[aM.1 hm]; exact hs.bits),(aC rfl),(aC rfl),(aC rfl),rfl⟩ ?_ ?_
 exact wp [(0,0),(1,1),(4,4),(5,2),(7,6),(8,3)] ⟨rfl,rfl,rfl,(Qp (by first | rfl | simp)),(Qp (by first | rfl | simp)),(Qp (by first | rfl | simp)),trivial⟩
 rintro m_ s_ ⟨k,QT,moves,by_,hk2,hm3,hA,hB,hl,hv,hy,rfl⟩
 iterate 9 refine w_ ?_
 cases hb4:(decide ((k:Int) < (QT.length:Int)))
 have hb4':=a7 hb4
 iterate 5 refine w_ ?_
 refine lc (Qc (Qa rfl) rfl (Qb rfl) rfl UN rfl) ?_
 iterate 2 refine w_ ?_
 subst hO
 have e5:(0:Int)=((l4V s).2.2.1):=by
  (rw[QbQ (hA.trans (WQ (by omega)))]; done)
 have e6:((-1):Int)=((l4V s).2.2.2.1):=by
  (rw[QbQ (hA.trans (WQ (by omega)))]; done)
 have e7:(false:Bool)=((l4V s).2.2.2.2):=by
  (rw[QbQ (hA.trans (WQ (by omega)))]; done)
 exact QD _ _ [(0,5),(1,7),(2,8)] (Qg rfl (QG rfl rfl UN rfl)) (by rw[← e5,← e6,← e7] <;> rfl) ⟨(Qp (by (rw[QbQ (hA.trans (WQ (by omega)))]; done))),(Qp (by (rw[QbQ (hA.trans (WQ (by omega)))]; done))),(Qp (by (rw[QbQ (hA.trans (WQ (by omega)))]; done))),trivial⟩ rfl rfl
 have hb4':=a8 hb4
 iterate 4 refine w_ ?_
 obtain ⟨mk,hx9⟩:=gx QT k
 have hbm:=hB _ (ai hx9)
 have hnp:=Qjt hs.net hbm
 have hel:=Uv s.1 mk
 refine dw [io 25 (lP 0 0),io 26 (ag [dI s.1.1, .dat QZ s.1.2]),io 27 (lP 4 0),io 28 (lP 4 0),io 29 (lR 5),io 30 (lI (k:Int)),io 31 (lf (.ept 5 1 k 0)),io 32 (lf (dS mk)),io 33 (lf (.dat Qs (Zl s.1 mk))),io 34 (lI ((Zl s.1 mk).length:Int)),io 35 (lI 0)] [0,1,0,4,12,0,60,124,255,511,0] mixed rfl (by kernel_rfl) ⟨dxf Z1 rfl rfl rfl,dxa YD rfl rfl rfl rfl,dxf QfR rfl rfl rfl,dxf V5 rfl rfl rfl,dxl XS rfl rfl rfl rfl rfl,dxm rfl rfl,fun _ h_=>ac (Qw (e:= .str) (h_.v rfl) (h_.en 5 rfl) (h_.v rfl) Zo Zg rfl (by omega) (by first | omega | (simp only[aq]; omega))) rfl,fun _ h_=>ac (QP (e:= .str) (h_.v rfl) (h_.n 5 rfl) hx9 rfl Zg rfl rfl) rfl,fun _ h_=>ac (Ql (UJ s.1 mk hnp (by omega)).frozen Qe7 ⟨_,_,rfl,(h_.w rfl),⟨_,_,rfl,(h_.w rfl),rfl⟩⟩ rfl rfl) rfl,fun _ h_=>ac (WO (h_.v rfl) rfl QN) rfl,fun _ h_=>ac (QaE (Qv rfl) rfl) rfl,⟨⟩⟩ ?_
 refine w_ ?_
 refine Qu (fun m_ s_=>∃(i:Nat) (marks2:List ByteArray) (moves2:List (Int×Int×Int)) (by2:List (Int×Int×Int)),i≤(Zl s.1 mk).length∧m_=(Zl s.1 mk).length - i∧(Yt s=Qae s.1 (300 - k) k (goT s.1 k mk ((Zl s.1 mk).drop i) (marks2,moves2,by2)))∧(∀m∈marks2,W8 m s.1.1)∧(marks2.length≤300)∧(marks2[k]? =some mk)∧(moves2.length≤24*k+i)∧(by2.length≤24*k+1+i)∧s_=⟨[(1,lP 0 0),(2,lP 1 0),(3,lP 4 0),(4,lI (k:Int)),(17,lI (k:Int)),(18,lP 4 0),(19,lP 4 0),(21,lI (QT.length:Int)),(22,lB true),(25,lP 0 0),(26,ag [dI s.1.1, .dat QZ s.1.2]),(27,lP 4 0),(28,lP 4 0),(30,lI (k:Int)),(32,lf (dS mk)),(33,lf (.dat Qs (Zl s.1 mk))),(34,lI ((Zl s.1 mk).length:Int)),(35,lI (i:Int))],[(0,some (.box 29 [dI s.1.1, .dat QZ s.1.2, .dat QJ s.2.1, .dat QR s.2.2.1,dS s.2.2.2])),(1,some (.box 255 [.val (.slice none 0 0), .val (.slice none 0 0), .val (.slice none 0 0),dI 0,dI 0,dB false])),(4,some (.box 255 [.ref 9, .ref 10, .ref 11,dI 0,dI (-1),dB false])),(9,some (.arr 9 .str marks2)),(10,some (.arr 229 ZZ moves2)),(11,some (.arr 229 ZZ by2))]⟩) ⟨0,QT,moves,by_,aw _,rfl,hA.trans (Qoq hx9 (by omega)),hB,hl,hx9,(by omega),(by omega),rfl⟩ ?_ ?_
 exact wo [(0,0),(1,1),(4,4),(9,5),(10,7),(11,8)]
 rintro m_ s_ ⟨i,marks2,moves2,by2,hk10,hm11,hA2,hB2,hl2,hM2,hv2,hy2,rfl⟩
 have hk2:=(au.1 hM2).1
 iterate 4 refine w_ ?_
 cases hb12:(decide ((i:Int) < ((Zl s.1 mk).length:Int)))
 have hb12':=a7 hb12
 iterate 7 refine w_ ?_
 refine Qm<|QV ⟨k+1,marks2,moves2,by2,by omega,rfl,hA2.trans (Qld (by omega) (by omega)),hB2,hl2,(by omega),(by omega),rfl⟩ (by omega) ?_
 exact wo [(0,0),(1,1),(4,4),(5,9),(7,10),(8,11)]
 have hb12':=a8 hb12
 iterate 5 refine w_ ?_
 obtain ⟨x13,hx14⟩:=gx (Zl s.1 mk) i
 refine lc (Qh (Qa rfl) (Qa rfl) QN QL rfl (by omega) hx14) ?_
 refine w_ ?_
 refine AL.fact (QC (x:= .tmp 38) (Qa rfl)) fun hi15=> ?_
 iterate 2 refine w_ ?_
 refine dw [io 40 (lP 0 0),io 41 (ag [dI s.1.1, .dat QZ s.1.2]),io 42 (lP 4 0),io 43 (lP 4 0),io 44 (lR 9),io 45 (lI (k:Int)),io 46 (lf (.ept 9 1 k 0)),io 47 (lf (dS mk)),io 48 (lI x13),io 49 (PV.tup [(false,[dS ((Ym s.1 mk x13).1)]),(false,[dB ((Ym s.1 mk x13).2)])]),io 39 (PV.tup [(false,[dS ((Ym s.1 mk x13).1)]),(false,[dB ((Ym s.1 mk x13).2)])]),io 50 (lf (dS ((Ym s.1 mk x13).1))),io 51 (lB ((Ym s.1 mk x13).2)),io 7 (lf (dS ((Ym s.1 mk x13).1))),io 8 (lB ((Ym s.1 mk x13).2))] [0,1,0,4,12,0,60,124,0,511,1023,2047,2047,4095,16383] mixed rfl (by kernel_rfl) ⟨dxf Z1 rfl rfl rfl,dxa YD rfl rfl rfl rfl,dxf QfR rfl rfl rfl,dxf V5 rfl rfl rfl,dxl XS rfl rfl rfl rfl rfl,dxm rfl rfl,fun _ h_=>ac (Qw (e:= .str) (h_.v rfl) (h_.en 9 rfl) (h_.v rfl) Zo Zg rfl (by omega) (by first | omega | (simp only[aq]; omega))) rfl,fun _ h_=>ac (QP (e:= .str) (h_.v rfl) (h_.n 9 rfl) hM2 rfl Zg rfl rfl) rfl,dxm rfl rfl,fun _ h_=>ac (Ql (QdP s.1 mk x13 hnp (YW hx14)) QjK ⟨_,_,rfl,(h_.w rfl),⟨_,_,rfl,(h_.w rfl),⟨_,_,rfl,(h_.w rfl),rfl⟩⟩⟩ rfl rfl) rfl,dxm rfl rfl,fun _ h_=>ac (YI (h_.k rfl) rfl rfl) rfl,fun _ h_=>ac (YI (h_.k rfl) rfl rfl) rfl,dxt rfl rfl,dxt rfl rfl,⟨⟩⟩ ?_
 iterate 5 refine w_ ?_
 cases hb16:((Ym s.1 mk x13).2)
 iterate 4 refine w_ ?_
 refine lc (Qc (Qa rfl) rfl (Qb rfl) rfl QL rfl) ?_
 iterate 4 refine w_ ?_
 refine lc (Qc (Qa rfl) rfl (Qb rfl) rfl QL rfl) ?_
 iterate 3 refine w_ ?_
 refine lc (Qc (Qa rfl) rfl (Qb rfl) rfl UN rfl) ?_
 iterate 2 refine w_ ?_
 subst hO
 have e17:((k:Int):Int)=((l4V s).2.2.1):=by
  (rw[Hi (hA2.trans (WL hx14 rfl ‹_›)) (YW hx14).1]; done)
 have e18:(x13:Int)=((l4V s).2.2.2.1):=by
  (rw[Hi (hA2.trans (WL hx14 rfl ‹_›)) (YW hx14).1]; done)
 have e19:(false:Bool)=((l4V s).2.2.2.2):=by
  (rw[Hi (hA2.trans (WL hx14 rfl ‹_›)) (YW hx14).1]; done)
 exact QD _ _ [(0,9),(1,10),(2,11)] (Qg rfl (QG rfl rfl UN rfl)) (by rw[e17,← e18,← e19] <;> rfl) ⟨(Qp (by (rw[Hi (hA2.trans (WL hx14 rfl ‹_›)) (YW hx14).1]; done))),(Qp (by (rw[Hi (hA2.trans (WL hx14 rfl ‹_›)) (YW hx14).1]; done))),(Qp (by (rw[Hi (hA2.trans (WL hx14 rfl ‹_›)) (YW hx14).1]; done))),trivial⟩ rfl rfl
 iterate 7 refine w_ ?_
 refine lc (Yv (JF marks2 ((Ym s.1 mk x13).1)) Qd2 ⟨_,_,rfl,(U3 (Qa rfl) rfl),⟨_,_,rfl,(Ev.b (Qb rfl)),rfl⟩⟩ rfl rfl rfl) ?_
 iterate 7 refine w_ ?_
 cases hb20:(decide ((YA marks2 ((Ym s.1 mk x13).1)) < 0))
 have hb20':=a7 hb20
 iterate 9 refine w_ ?_
 refine lc (QA HJ ⟨_,_,rfl,(Qb rfl),⟨_,_,rfl,(Qb rfl),⟨_,_,rfl,(Qb rfl),rfl⟩⟩⟩ (ae.1 rfl) rfl rfl)<|lc (Qf 12 (e:=ZZ) Ys Yc Xm rfl ⟨_,_,rfl,(Qb rfl),rfl⟩ (ae.1 rfl) ⟨_,_,_,_,rfl,⟨[dI (k:Int)],[dI x13,dI (YA marks2 ((Ym s.1 mk x13).1))],_,_,_,_,rfl,rfl,⟨rfl,rfl⟩,⟨[dI x13],[dI (YA marks2 ((Ym s.1 mk x13).1))],_,_,_,_,rfl,rfl,⟨rfl,rfl⟩,⟨rfl,rfl⟩,rfl⟩,rfl⟩,⟨rfl,rfl⟩,rfl⟩ (by decide) rfl rfl (Fresh.of rfl) (nlr rfl))<|lc (QH 13 (Qa rfl) rfl (Qa rfl) rfl rfl Ys Hm (by first | omega | (simp only[aa,av,ab,ah,aj]; omega) | (simp only[aa,ay,ab,ah,aj]; omega)) rfl (Fresh.of rfl) (nlr rfl)) ?_
 iterate 2 refine w_ ?_
 refine lc (Qc (Qa rfl) rfl (Qb rfl) rfl QbP rfl)<|Qm ?_
 iterate 4 refine w_ ?_
 refine Qm<|QV ⟨i+1,marks2,(moves2++([((k:Int),x13,YA marks2 ((Ym s.1 mk x13).1))])),by2,by omega,rfl,by first | exact hA2.trans (Qdh hx14 rfl ‹_› ⟨by omega,rfl⟩) | exact hA2.trans (Qc4 hx14 rfl ‹_› (by omega) ‹_›),by first | exact hB2 | exact Qa4 hB2 (Ug (hB2 _ (ai hM2)) rfl ‹_›),(by omega),by first | exact hM2 | exact Qht hM2,(by simp only[aa,ah,aj]; omega),(by omega),rfl⟩ (by omega) ?_
 exact wp [(0,0),(1,1),(4,4),(9,9),(10,13),(11,11)] ⟨rfl,rfl,rfl,rfl,(Qp (by first | rfl | simp)),rfl,trivial⟩
 have hb20':=a8 hb20
 iterate 9 refine w_ ?_
 cases hb21:(decide ((marks2.length:Int)=300))
 have hb21':=a7 hb21
 iterate 14 refine w_ ?_
 refine lc (Qf 14 (e:= .str) Zo Zg H8 rfl ⟨_,_,rfl,(Qb rfl),rfl⟩ (ae.1 rfl) ⟨_,_,_,_,rfl,⟨rfl,rfl⟩,⟨rfl,rfl⟩,rfl⟩ (by decide) rfl rfl (Fresh.of rfl) (nlr rfl))<|lc (QH 15 (Qa rfl) rfl (Qa rfl) rfl rfl Zo Qgn (by first | omega | (simp only[aa,av,ab,ah,aj]; omega) | (simp only[aa,ay,ab,ah,aj]; omega)) rfl (Fresh.of rfl) (nlr rfl)) ?_
 iterate 2 refine w_ ?_
 refine lc (Qc (Qa rfl) rfl (Qb rfl) rfl XS rfl) ?_
 iterate 7 refine w_ ?_
 refine lc (QA HJ ⟨_,_,rfl,(Qb rfl),⟨_,_,rfl,(Qb rfl),⟨_,_,rfl,(Qb rfl),rfl⟩⟩⟩ (ae.1 rfl) rfl rfl)<|lc (Qf 16 (e:=ZZ) Ys Yc Xm rfl ⟨_,_,rfl,(Qb rfl),rfl⟩ (ae.1 rfl) ⟨_,_,_,_,rfl,⟨[dI (k:Int)],[dI x13,dI (marks2.length:Int)],_,_,_,_,rfl,rfl,⟨rfl,rfl⟩,⟨[dI x13],[dI (marks2.length:Int)],_,_,_,_,rfl,rfl,⟨rfl,rfl⟩,⟨rfl,rfl⟩,rfl⟩,rfl⟩,⟨rfl,rfl⟩,rfl⟩ (by decide) rfl rfl (Fresh.of rfl) (nlr rfl))<|lc (QH 17 (Qa rfl) rfl (Qa rfl) rfl rfl Ys Hm (by first | omega | (simp only[aa,av,ab,ah,aj]; omega) | (simp only[aa,ay,ab,ah,aj]; omega)) rfl (Fresh.of rfl) (nlr rfl)) ?_
 refine w_ ?_
 refine lc (Qc (Qa rfl) rfl (Qb rfl) rfl QbP rfl) ?_
 iterate 8 refine w_ ?_
 refine lc (QA HJ ⟨_,_,rfl,(Qb rfl),⟨_,_,rfl,(Qb rfl),⟨_,_,rfl,(Qb rfl),rfl⟩⟩⟩ (ae.1 rfl) rfl rfl)<|lc (Qf 18 (e:=ZZ) Ys Yc Xm rfl ⟨_,_,rfl,(Qb rfl),rfl⟩ (ae.1 rfl) ⟨_,_,_,_,rfl,⟨[dI (k:Int)],[dI x13,dI (marks2.length:Int)],_,_,_,_,rfl,rfl,⟨rfl,rfl⟩,⟨[dI x13],[dI (marks2.length:Int)],_,_,_,_,rfl,rfl,⟨rfl,rfl⟩,⟨rfl,rfl⟩,rfl⟩,rfl⟩,⟨rfl,rfl⟩,rfl⟩ (by decide) rfl rfl (Fresh.of rfl) (nlr rfl))<|lc (QH 19 (Qa rfl) rfl (Qa rfl) rfl rfl Ys Hm (by first | omega | (simp only[aa,av,ab,ah,aj]; omega) | (simp only[aa,ay,ab,ah,aj]; omega)) rfl (Fresh.of rfl) (nlr rfl)) ?_
 iterate 2 refine w_ ?_
 refine lc (Qc (Qa rfl) rfl (Qb rfl) rfl QbP rfl)<|Qm ?_
 iterate 4 refine w_ ?_
 refine Qm<|QV ⟨i+1,(marks2++([(Ym s.1 mk x13).1])),(moves2++([((k:Int),x13,(marks2.length:Int))])),(by2++([((k:Int),x13,(marks2.length:Int))])),by omega,rfl,by first | exact hA2.trans (Qdh hx14 rfl ‹_› ⟨by omega,rfl⟩) | exact hA2.trans (Qc4 hx14 rfl ‹_› (by omega) ‹_›),by first | exact hB2 | exact Qa4 hB2 (Ug (hB2 _ (ai hM2)) rfl ‹_›),(by (simp only[aa,ah,aj]; omega)),by first | exact hM2 | exact Qht hM2,(by simp only[aa,ah,aj]; omega),(by (simp only[aa,ah,aj]; omega)),rfl⟩ (by omega) ?_
 exact wp [(0,0),(1,1),(4,4),(9,15),(10,19),(11,17)] ⟨rfl,rfl,rfl,(Qp (by first | rfl | simp)),(Qp (by first | rfl | simp)),(Qp (by first | rfl | simp)),trivial⟩
 have hb21':=a8 hb21
 iterate 3 refine w_ ?_
 refine lc (Qc (Qa rfl) rfl (Evl.ev Xh) rfl Uj rfl) ?_
 iterate 3 refine w_ ?_
 refine lc (Qc (Qa rfl) rfl (Qb rfl) rfl UN rfl) ?_
 iterate 2 refine w_ ?_
 subst hO
 have e22:(0:Int)=((l4V s).2.2.1):=by
  (rw[Ku (hA2.trans (XJ hx14 rfl ‹_› (by omega) ‹_›))]; done)
 have e23:((-1):Int)=((l4V s).2.2.2.1):=by
  (rw[Ku (hA2.trans (XJ hx14 rfl ‹_› (by omega) ‹_›))]; done)
 have e24:(true:Bool)=((l4V s).2.2.2.2):=by
  (rw[Ku (hA2.trans (XJ hx14 rfl ‹_› (by omega) ‹_›))]; done)
 exact QD _ _ [(0,9),(1,10),(2,11)] (Qg rfl (QG rfl rfl UN rfl)) (by rw[← e22,← e23,← e24] <;> rfl) ⟨(Qp (by (rw[Ku (hA2.trans (XJ hx14 rfl ‹_› (by omega) ‹_›))]; done))),(Qp (by (rw[Ku (hA2.trans (XJ hx14 rfl ‹_› (by omega) ‹_›))]; done))),(Qp (by (rw[Ku (hA2.trans (XJ hx14 rfl ‹_› (by omega) ‹_›))]; done))),trivial⟩ rfl rfl
end Go.Proofs.YtjaadeknhofhpaaGreat
