/- Walks over abstract states: reachability. -/
import Derived.Test.YtjaadeknhofhpaaGreatWk
set_option linter.unusedSimpArgs false
set_option linter.unusedVariables false
set_option linter.unusedSectionVars false
namespace Go.Proofs.YtjaadeknhofhpaaGreat
open Go.RowKit
set_option maxRecDepth 100000
set_option maxHeartbeats 4000000
abbrev RS:=List ByteArray×List (Int×Int×Int)×List (Int×Int×Int)
abbrev Qia:=Int×Int×Bool
def Yx (l:List ByteArray)(x:ByteArray):Int:=Ze (fun y=>decide (y=x)) l
def goT (n:Xz)(k:Nat)(mk:ByteArray):List Int→RS→RS×Qia
  | [],st=>(st,(-1, -1,true))
  | t :: ts,st=>
    if (Yw n mk t).2=false then (st,(k,t,false))
    else if 0≤Yx st.1 (Yw n mk t).1 then goT n k mk ts (st.1,st.2.1++[((k:Int),t,Yx st.1 (Yw n mk t).1)],st.2.2)
    else if st.1.length=300 then (st,(-1, -1,false))
    else goT n k mk ts (st.1++[(Yw n mk t).1],st.2.1++[((k:Int),t,(st.1.length:Int))],st.2.2++[((k:Int),t,(st.1.length:Int))])
def goK (n:Xz):Nat→Nat→RS→RS×Qia
  | 0,_,st=>(st,(-1, -1,true))
  | f+1,k,st=>match st.1[k]? with
    | none=>(st,(-1, -1,true))
    | some mk=>if (goT n k mk (KZ n mk) st).2.2.2=true then goK n f (k+1) (goT n k mk (KZ n mk) st).1 else goT n k mk (KZ n mk) st
def Qbs (n:Xz)(f k:Nat)(r:RS×Qia):RS×Qia:=if r.2.2.2=true then goK n f (k+1) r.1 else r
def ZU (s:Q9):RS×Qia:=goK s.1 301 0 ([s.2.2.2],[],[((0:Int),(0:Int),(0:Int))])
def exV (s:Q9):(List ByteArray×List (Int×Int×Int))×Int×Int×Bool:=(((ZU s).1.1,(ZU s).1.2.1),(ZU s).2)
def l4V (s:Q9):(List ByteArray×List (Int×Int×Int))×List (Int×Int×Int)×Int×Int×Bool:=
  (((ZU s).1.1,(ZU s).1.2.1),(ZU s).1.2.2,(if 0≤(ZU s).2.2.1 then (ZU s).2.1 else 0),(ZU s).2.2.1,(!(ZU s).2.2.2&&decide ((ZU s).2.2.1 < 0)))
def Qki:List ByteArray×List (Int×Int×Int):=([],[])
section
variable [∀s,Decidable (StgOk s)]
def Qs (s:Q9):(List ByteArray×List (Int×Int×Int))×Bool:=if StgOk s∧(ZU s).2.2.2=true then (((ZU s).1.1,(ZU s).1.2.1),true) else (Qki,false)
end
theorem Qnf (l:List ByteArray)(x y:ByteArray):Yx (l++[y]) x=if 0≤Yx l x then Yx l x else if y=x then (l.length:Int) else -1:=by
  unfold Yx Ze
  rw[List.findIdx?_append]
  cases h:l.findIdx? (fun z=>decide (z=x)) with
  | some i=>simp
  | none=>
    by_cases e:y=x
    · simp[e]
    · simp[e]
def IdxOf (QP:List ByteArray)(idx:List (ByteArray×Int)):Prop:=∀x,YI .str idx x=if 0≤Yx QP x then some (Yx QP x) else none
section
variable {QP:List ByteArray}{idx:List (ByteArray×Int)}{x:ByteArray}{v b:List (Int×Int×Int)}{n:Xz}{k f i:Nat}{mk:ByteArray}{t:Int}{ts:List Int}{r:ByteArray×Bool}{j:Int}{s:Q9}{e:Qia}
theorem IdxOf.new (h:IdxOf QP idx)(hs:(YI .str idx x).isSome=false):¬0≤Yx QP x:=by
  rw[h x] at hs
  intro h0
  rw[if_pos h0] at hs; cases hs
theorem IdxOf.set (h:IdxOf QP idx)(hs:(YI .str idx x).isSome=false):IdxOf (QP++[x]) (Vl .str idx x (QP.length:Int)):=fun y=>by
  have h0:=h.new hs
  rw[Qfp,Qnf,h y]
  by_cases e:x=y
  · subst e
    rw[if_pos ((Ty.beq_iff .str x x).2 rfl),if_neg h0,if_pos rfl,if_pos (bN _)]
  · have : Ty.beq .str x y = false := cg.2 fun h => e ((Ty.beq_iff .str x y).1 h)
    rw[if_neg (show¬Ty.beq .str x y=true by rw[this]; decide),if_neg e]
    by_cases h1:0≤Yx QP y
    · rw[if_pos h1,if_pos h1,if_pos h1]
    · rw[if_neg h1,if_neg h1,if_neg (by decide)]
theorem IdxOf.one (x:ByteArray):IdxOf [x] (Vl .str ([]:List (ByteArray×Int)) x 0):=fun y=>by
  rw[Qfp]
  by_cases e:x=y
  · subst e
    rw[if_pos ((Ty.beq_iff .str x x).2 rfl)]
    simp[Yx,Ze]
  · have : Ty.beq .str x y = false := cg.2 fun h => e ((Ty.beq_iff .str x y).1 h)
    rw[if_neg (show¬Ty.beq .str x y=true by rw[this]; decide)]
    simp[Yx,Ze,e,YI]
theorem JP (hx:ts[i]? =some t)(hr:r=Yw n mk t)(hb:r.2=false):Qbs n f k (goT n k mk (ts.drop i) (QP,v,b))=((QP,v,b),((k:Int),t,false)):=by
  subst hr
  rw[Yb hx,goT,if_pos hb]
  rfl
theorem QmW (hx:ts[i]? =some t)(hr:r=Yw n mk t)(hb:r.2=true)(hj:0≤Yx QP r.1∧j=Yx QP r.1):Qbs n f k (goT n k mk (ts.drop i) (QP,v,b))=Qbs n f k (goT n k mk (ts.drop (i+1)) (QP,v++[((k:Int),t,j)],b)):=by
  subst hr
  rw[Yb hx,goT,if_neg (by rw[hb]; decide),if_pos hj.1,hj.2]
theorem UQ (hx:ts[i]? =some t)(hr:r=Yw n mk t)(hb:r.2=true)(hj:¬0≤Yx QP r.1)(hl:(QP.length:Int)=300):Qbs n f k (goT n k mk (ts.drop i) (QP,v,b))=((QP,v,b),(-1, -1,false)):=by
  subst hr
  rw[Yb hx,goT,if_neg (by rw[hb]; decide),if_neg hj,if_pos (show QP.length=300 by omega)]
  rfl
theorem Qmm (hx:ts[i]? =some t)(hr:r=Yw n mk t)(hb:r.2=true)(hj:¬0≤Yx QP r.1)(hl:¬(QP.length:Int)=300):Qbs n f k (goT n k mk (ts.drop i) (QP,v,b))=Qbs n f k (goT n k mk (ts.drop (i+1)) (QP++[r.1],v++[((k:Int),t,(QP.length:Int))],b++[((k:Int),t,(QP.length:Int))])):=by
  subst hr
  rw[Yb hx,goT,if_neg (by rw[hb]; decide),if_neg hj,if_neg (show¬QP.length=300 by omega)]
theorem QrD (hi:ts.length≤i)(hk:k < 300):Qbs n (300 - k) k (goT n k mk (ts.drop i) (QP,v,b))=goK n (301 - (k+1)) (k+1) (QP,v,b):=by
  rw[bt hi,goT,show 301 - (k+1)=300 - k by omega]
  rfl
theorem QtU (hx:QP[k]? =some mk)(hk:k < 300):goK n (301 - k) k (QP,v,b)=Qbs n (300 - k) k (goT n k mk (KZ n mk) (QP,v,b)):=by
  rw[show 301 - k=(300 - k)+1 by omega,goK]
  simp only[hx]
  rfl
theorem JU (hk:QP.length≤k):goK n f k (QP,v,b)=((QP,v,b),(-1, -1,true)):=by
  cases f with
  | zero=>rfl
  | succ f=>
    rw[goK]
    simp only[bu hk]
theorem QkY (h:ZU s=((QP,v,b),e)):l4V s=((QP,v),b,(if 0≤e.2.1 then e.1 else 0),e.2.1,(!e.2.2&&decide (e.2.1 < 0))):=by
  unfold l4V; rw[h]
theorem JM (h:ZU s=((QP,v,b),((k:Int),t,false)))(h0:0≤t):l4V s=((QP,v),b,(k:Int),t,false):=by
  rw[QkY h]
  simp[h0]
theorem UV (h:ZU s=((QP,v,b),(-1, -1,false))):l4V s=((QP,v),b,0, -1,true):=by
  rw[QkY h]; rfl
theorem QbY (h:ZU s=((QP,v,b),(-1, -1,true))):l4V s=((QP,v),b,0, -1,false):=by
  rw[QkY h]; rfl
theorem QpK {m:ByteArray}{n:Int}(h:Qax m n){p:Int}(h0:0≤p)(h1:p < n):(0≤p∧p < m.size)∧(bAt m p=48∨bAt m p=49):=by
  obtain ⟨h2,h3⟩:=h
  have hp:p.toNat < m.size:=by omega
  refine ⟨⟨h0,by omega⟩, ?_⟩
  have e:bAt m p=m[p.toNat]:=by unfold bAt; rw[d8 m p.toNat hp]; rfl
  rw[e]
  rcases h2 p.toNat hp hp with h | h
  · exact .inl (UInt8.toNat_inj.1 h)
  · exact .inr (UInt8.toNat_inj.1 h)
theorem QfO {m:ByteArray}{n:Int}(h:Qax m n){ps:List Int}(hr:JF ps (n - 1)):QcI m ps:=fun p hp=>by
  obtain ⟨j,hj⟩:=aJ.1 hp
  have:=(hr j (ab.1 hj).1 p hj).1
  exact QpK h (by omega) (by omega)
theorem Qts (hv:XG n)(h:Qax mk n.1):∀t∈n.2,QcI mk t.1∧QcI mk t.2:=fun t ht=>⟨QfO h (hv.2.2 t ht).2.1,QfO h (hv.2.2 t ht).2.2⟩
theorem Va (hx:(KZ n mk)[i]? =some t):0≤t∧t < n.2.length:=by
  obtain ⟨x,h1,h2,_⟩:=Qor (a8 hx)
  exact ⟨h1,h2⟩
theorem QhO (n:Xz)(mk:ByteArray):(KZ n mk).length≤n.2.length:=QfT _ _ _
def LBits (l:List UInt8):Prop:=∀c∈l,c=48∨c=49
theorem LBits.set {l:List UInt8}(h:LBits l){c:UInt8}(hc:c=48∨c=49)(i:Nat):LBits (l.set i c):=fun d hd=>by
  rcases bV hd with h1 | h1
  · exact h d h1
  · rw[h1]; exact hc
theorem LBits.clr {l:List UInt8}(h:LBits l)(ps:List Int):LBits (clr l ps):=by
  induction ps generalizing l with
  | nil=>exact h
  | cons p ps ih=>exact ih (h.set (.inl rfl) _)
theorem LBits.put {l l':List UInt8}(h:LBits l){ps:List Int}(hp:JD l ps=some l'):LBits l'∧l'.length=l.length:=by
  induction ps generalizing l with
  | nil=>rw[JD] at hp; cases hp; exact ⟨h,rfl⟩
  | cons p ps ih=>
    rw[JD] at hp
    split at hp
    · cases hp
    · obtain ⟨h1, h2⟩ := ih (h.set (.inr rfl) _) hp
      exact ⟨h1,by rw[h2,au]⟩
theorem QoI {m:ByteArray}{n:Int}(h:Qax m n):LBits m.toList:=fun c hc=>by
  rw[bj] at hc
  obtain ⟨i,hi,e⟩:=List.getElem_of_mem hc
  have h2:i < m.size:=by simpa using hi
  have h3:=h.1 i h2 h2
  have h4:m[i]=c:=by rw[← e]; rfl
  rw[h4] at h3
  rcases h3 with h | h
  · exact .inl (UInt8.toNat_inj.1 h)
  · exact .inr (UInt8.toNat_inj.1 h)
theorem QoD {l:List UInt8}{n:Int}(h:LBits l)(hl:(l.length:Int)=n):Qax ⟨l.toArray⟩ n:=by
  refine ⟨fun k hk hk'=> ?_,by rw[← hl]; rfl⟩
  have h1:(⟨l.toArray⟩:ByteArray)[k]∈l:=by
    show l.toArray[k]∈l
    simp
  rcases h _ h1 with h | h
  · exact .inl (by rw[h]; rfl)
  · exact .inr (by rw[h]; rfl)
theorem QdY (hm:Qax mk n.1)(hr:r=Yw n mk t)(h:r.2=true):Qax r.1 n.1:=by
  subst hr
  unfold Yw at h ⊢
  cases hx:n.2[t.toNat]? with
  | none=>rw[hx] at h; cases h
  | some x=>
    rw[hx] at h
    simp only at h ⊢
    unfold JA at h ⊢
    cases hp:JD (clr mk.toList x.1) x.2 with
    | none=>rw[hp] at h; cases h
    | some l=>
      obtain ⟨h1,h2⟩:=((QoI hm).clr x.1).put hp
      refine QoD h1 ?_
      rw[h2,QrE,X7]
      exact hm.2
theorem QmB {p:ByteArray→Prop}(h:∀m∈QP,p m)(hx:p x):∀m∈QP++[x],p m:=fun m hm=>by
  rcases aL.1 hm with h1 | h1
  · exact h m h1
  · rw[aK.1 h1]; exact hx
theorem Qq5 (h:QP[k]? =some mk):(QP++[x])[k]? =some mk:=by
  rw[bd (ab.1 h).1]; exact h
end
theorem Qdo (QP:List ByteArray)(m:ByteArray):FC Tryz.prog 308 [(false,[.dat Qr QP]),(false,[dS m])] [] 0 (Zk (lI (Yx QP m))):=by
 refine Qy Tryz.func308 rfl rfl Tryz.ntmps308 fun O_ hO w0_ N0_ X_ h0_ f0_=> ?_
 iterate 6 refine w_ ?_
 refine AL.fact (Qp (x:= .tmp 7) (Qa rfl)) fun hl1=> ?_
 iterate 4 refine w_ ?_
 refine Qm (fun m_ s_=>∃(k:Nat),k≤QP.length∧m_=QP.length - k∧(NoneTo (fun y=>decide (y=m)) QP k)∧s_=⟨[(1,lf (dS m)),(7,lf (.dat Qr QP)),(8,lI (QP.length:Int)),(9,lI (k:Int))],[]⟩) ⟨0,ap _,rfl,NoneTo.zero,rfl⟩ ?_ ?_
 exact wo []
 rintro m_ s_ ⟨k,hk2,hm3,hno,rfl⟩
 iterate 4 refine w_ ?_
 cases hb4:(decide ((k:Int) < (QP.length:Int)))
 have hb4':=a6 hb4
 iterate 7 refine w_ ?_
 subst hO
 have e5:((-1):Int)=(Yx QP m):=by
  first | exact (hno.no (by omega)).symm
 exact Qe (Res.one rfl (Qb rfl)) (by rw[← e5] <;> rfl) rfl
 have hb4':=a7 hb4
 iterate 6 refine w_ ?_
 obtain ⟨x6,hx7⟩:=gx QP k
 iterate 10 refine w_ ?_
 cases hb8:(decide (x6=m))
 have hb8':=a6 hb8
 iterate 6 refine w_ ?_
 refine Qc<|QE ⟨k+1,by omega,rfl,hno.step hx7 ‹_›,rfl⟩ (by omega) ?_
 exact wo []
 have hb8':=a7 hb8
 iterate 6 refine w_ ?_
 subst hO
 have e9:((k:Int):Int)=(Yx QP m):=by
  exact (hno.at hx7 ‹_›).symm
 exact Qe (Res.one rfl (Qb rfl)) (by rw[e9] <;> rfl) rfl
theorem Qct (s:(Int×(List (List Int×List Int)))×(List (ByteArray×Int))×(List (Int×Bool))×ByteArray)(hs:StgOk s):FC Tryz.prog 230 [(true,[dI s.1.1, .dat X3 s.1.2, .dat Qo s.2.1, .dat YQ s.2.2.1,dS s.2.2.2])] [] 0 (Is (ag [.ref 0, .ref 1, .ref 2,dI ((l4V s).2.2.1),dI ((l4V s).2.2.2.1),dB ((l4V s).2.2.2.2)]) [(0,some (.arr 9 .str (((l4V s).1).1))),(1,some (.arr 229 Wi (((l4V s).1).2))),(2,some (.arr 229 Wi ((l4V s).2.1)))]):=by
 have hnl:=hs.net.2.1
 refine Qy Tryz.func230 rfl rfl Tryz.ntmps230 fun O_ hO w0_ N0_ X_ h0_ f0_=> ?_
 refine AC.fact (QH (x:= .tmp 0) (i:=0) (Qf rfl) rfl) fun hi1=> ?_
 refine w_ ?_
 refine xbx 0 ?_
 refine lc (xal 1 QsM Qda) ?_
 iterate 4 refine w_ ?_
 refine lc (dBs 2 (e:= .str) U2) ?_
 refine lc (Qi QcU ⟨_,_,rfl,(Qf rfl),rfl⟩ (ah.1 rfl) rfl rfl)<|lc (Qi QcX rfl (ah.1 rfl) rfl rfl) ?_
 refine lc (dBs 3 (e:=Wi) Ki (hab:=by exact ⟨_,_,_,_,rfl,⟨[dI 0],[dI 0,dI 0],_,_,_,_,rfl,rfl,⟨rfl,rfl⟩,⟨[dI 0],[dI 0],_,_,_,_,rfl,rfl,⟨rfl,rfl⟩,⟨rfl,rfl⟩,rfl⟩,rfl⟩,⟨rfl,rfl⟩,rfl⟩)) ?_
 refine lc (Qi Qrg ⟨_,_,rfl,(Qf rfl),⟨_,_,rfl,(Qf rfl),⟨_,_,rfl,(Evl.ev (Qu rfl)),rfl⟩⟩⟩ (ah.1 rfl) rfl rfl)<|lc (xal 4 QsM Qda) ?_
 iterate 7 refine w_ ?_
 refine AC.wk (Qv 6 (p:=4) (off:=1) 229 Wi rfl rfl (Fresh.of rfl) (nlr rfl)) ?_
 refine Qm (fun m_ s_=>∃(k:Nat) (QP:List ByteArray) (moves:List (Int×Int×Int)) (by_:List (Int×Int×Int)),k≤300∧m_=300 - k∧(ZU s=goK s.1 (301 - k) k (QP,moves,by_))∧(∀m∈QP,Qax m s.1.1)∧(QP.length≤300)∧(moves.length≤24*k)∧(by_.length≤24*k+1)∧s_=⟨[(1,lP 0 0),(2,lP 1 0),(3,lP 4 0),(4,lI (k:Int))],[(0,some (.box 29 [dI s.1.1, .dat X3 s.1.2, .dat Qo s.2.1, .dat YQ s.2.2.1,dS s.2.2.2])),(1,some (.box 255 [.val (.slice none 0 0), .val (.slice none 0 0), .val (.slice none 0 0),dI 0,dI 0,dB false])),(4,some (.box 255 [.ref 5, .ref 7, .ref 8,dI 0,dI (-1),dB false])),(5,some (.arr 9 .str QP)),(7,some (.arr 229 Wi moves)),(8,some (.arr 229 Wi by_))]⟩) ⟨0,[s.2.2.2],([]:(Qcn:Ty).Den),[(0,0,0)],ap _,rfl,rfl,(by intro m hm; rw[aK.1 hm]; exact hs.bits),(aE rfl),(aE rfl),(aE rfl),rfl⟩ ?_ ?_
 exact wp [(5,2),(7,6),(8,3)] ⟨rfl,rfl,rfl,(Qh (by first | rfl | simp)),(Qh (by first | rfl | simp)),(Qh (by first | rfl | simp)),trivial⟩
 rintro m_ s_ ⟨k,QP,moves,by_,hk2,hm3,hA,hB,hl,hv,hy,rfl⟩
 iterate 9 refine w_ ?_
 cases hb4:(decide ((k:Int) < (QP.length:Int)))
 have hb4':=a6 hb4
 iterate 8 refine w_ ?_
 subst hO
 have e5:(0:Int)=((l4V s).2.2.1):=by
  (rw[QbY (hA.trans (JU (by omega)))]; done)
 have e6:((-1):Int)=((l4V s).2.2.2.1):=by
  (rw[QbY (hA.trans (JU (by omega)))]; done)
 have e7:(false:Bool)=((l4V s).2.2.2.2):=by
  (rw[QbY (hA.trans (JU (by omega)))]; done)
 exact QF _ _ [(0,5),(1,7),(2,8)] (Res.one rfl (Qz rfl rfl QgH rfl)) (by rw[← e5,← e6,← e7] <;> rfl) ⟨(Qh (by (rw[QbY (hA.trans (JU (by omega)))]; done))),(Qh (by (rw[QbY (hA.trans (JU (by omega)))]; done))),(Qh (by (rw[QbY (hA.trans (JU (by omega)))]; done))),trivial⟩ rfl rfl
 have hb4':=a7 hb4
 iterate 4 refine w_ ?_
 obtain ⟨mk,hx9⟩:=gx QP k
 have hbm:=hB _ (a8 hx9)
 have hnp:=Qts hs.net hbm
 have hel:=QhO s.1 mk
 apply dW [io 25 _,io 26 _,io 27 _,io 28 _,io 29 _,io 30 _,io 31 (lf (.ept 5 1 k 0)),io 32 (lf (dS mk)),io 33 (lf (.dat QI (KZ s.1 mk))),io 34 _,io 35 _] [0,0,3,3,3,31,3,3,0,0,1023]
 iterate 6 refine z_ ?_
 refine zz (fun _ h_=>ac (QS (e:= .str) (h_.v rfl) (h_.en 5 rfl) (h_.v rfl) Qbw KT rfl (by omega) (by first | omega | (simp only[au]; omega))) rfl)<|zz (fun _ h_=>ac (Zp (e:= .str) (h_.v rfl) (h_.n 5 rfl) hx9 rfl KT rfl rfl) rfl) ?_
 refine zz (fun _ h_=>ac (dK (Qbd s.1 mk hnp (by omega)).frozen Qjn) rfl) ?_
 iterate 2 refine z_ ?_
 exact zN
 refine w_ ?_
 refine Qm (fun m_ s_=>∃(i:Nat) (marks2:List ByteArray) (moves2:List (Int×Int×Int)) (by2:List (Int×Int×Int)),i≤(KZ s.1 mk).length∧m_=(KZ s.1 mk).length - i∧(ZU s=Qbs s.1 (300 - k) k (goT s.1 k mk ((KZ s.1 mk).drop i) (marks2,moves2,by2)))∧(∀m∈marks2,Qax m s.1.1)∧(marks2.length≤300)∧(marks2[k]? =some mk)∧(moves2.length≤24*k+i)∧(by2.length≤24*k+1+i)∧s_=⟨[(1,lP 0 0),(2,lP 1 0),(3,lP 4 0),(4,lI (k:Int)),(17,lI (k:Int)),(18,lP 4 0),(19,lP 4 0),(21,lI (QP.length:Int)),(22,lB true),(25,lP 0 0),(26,ag [dI s.1.1, .dat X3 s.1.2]),(27,lP 4 0),(28,lP 4 0),(30,lI (k:Int)),(32,lf (dS mk)),(33,lf (.dat QI (KZ s.1 mk))),(34,lI ((KZ s.1 mk).length:Int)),(35,lI (i:Int))],[(0,some (.box 29 [dI s.1.1, .dat X3 s.1.2, .dat Qo s.2.1, .dat YQ s.2.2.1,dS s.2.2.2])),(1,some (.box 255 [.val (.slice none 0 0), .val (.slice none 0 0), .val (.slice none 0 0),dI 0,dI 0,dB false])),(4,some (.box 255 [.ref 9, .ref 10, .ref 11,dI 0,dI (-1),dB false])),(9,some (.arr 9 .str marks2)),(10,some (.arr 229 Wi moves2)),(11,some (.arr 229 Wi by2))]⟩) ⟨0,QP,moves,by_,ap _,rfl,hA.trans (QtU hx9 (by omega)),hB,hl,hx9,(by omega),(by omega),rfl⟩ ?_ ?_
 exact wo [(9,5),(10,7),(11,8)]
 rintro m_ s_ ⟨i,marks2,moves2,by2,hk10,hm11,hA2,hB2,hl2,hM2,hv2,hy2,rfl⟩
 have hk2:=(ab.1 hM2).1
 iterate 4 refine w_ ?_
 cases hb12:(decide ((i:Int) < ((KZ s.1 mk).length:Int)))
 have hb12':=a6 hb12
 iterate 7 refine w_ ?_
 refine Qc<|QE ⟨k+1,marks2,moves2,by2,by omega,rfl,hA2.trans (QrD (by omega) (by omega)),hB2,hl2,(by omega),(by omega),rfl⟩ (by omega) ?_
 exact wo [(5,9),(7,10),(8,11)]
 have hb12':=a7 hb12
 iterate 5 refine w_ ?_
 obtain ⟨x13,hx14⟩:=gx (KZ s.1 mk) i
 iterate 2 refine w_ ?_
 refine AL.fact (Ql (x:= .tmp 38) (Qa rfl)) fun hi15=> ?_
 iterate 2 refine w_ ?_
 apply dW [io 40 _,io 41 _,io 42 _,io 43 _,io 44 _,io 45 _,io 46 (lf (.ept 9 1 k 0)),io 47 (lf (dS mk)),io 48 _,io 49 (PV.tup [(false,[dS ((Yw s.1 mk x13).1)]),(false,[dB ((Yw s.1 mk x13).2)])]),io 39 _,io 50 _,io 51 _,io 7 _,io 8 _] [0,0,3,3,3,31,3,3,255,0,0,0,2048,4096,0]
 iterate 6 refine z_ ?_
 refine zz (fun _ h_=>ac (QS (e:= .str) (h_.v rfl) (h_.en 9 rfl) (h_.v rfl) Qbw KT rfl (by omega) (by first | omega | (simp only[au]; omega))) rfl)<|zz (fun _ h_=>ac (Zp (e:= .str) (h_.v rfl) (h_.n 9 rfl) hM2 rfl KT rfl rfl) rfl) ?_
 refine z_ ?_
 refine zz (fun _ h_=>ac (dK (QdT s.1 mk x13 hnp (Va hx14)) Qju) rfl) ?_
 iterate 5 refine z_ ?_
 exact zN
 iterate 5 refine w_ ?_
 cases hb16:((Yw s.1 mk x13).2)
 iterate 16 refine w_ ?_
 subst hO
 have e17:((k:Int):Int)=((l4V s).2.2.1):=by
  (rw[JM (hA2.trans (JP hx14 rfl ‹_›)) (Va hx14).1]; done)
 have e18:(x13:Int)=((l4V s).2.2.2.1):=by
  (rw[JM (hA2.trans (JP hx14 rfl ‹_›)) (Va hx14).1]; done)
 have e19:(false:Bool)=((l4V s).2.2.2.2):=by
  (rw[JM (hA2.trans (JP hx14 rfl ‹_›)) (Va hx14).1]; done)
 exact QF _ _ [(0,9),(1,10),(2,11)] (Res.one rfl (Qz rfl rfl QgH rfl)) (by rw[e17,← e18,← e19] <;> rfl) ⟨(Qh (by (rw[JM (hA2.trans (JP hx14 rfl ‹_›)) (Va hx14).1]; done))),(Qh (by (rw[JM (hA2.trans (JP hx14 rfl ‹_›)) (Va hx14).1]; done))),(Qh (by (rw[JM (hA2.trans (JP hx14 rfl ‹_›)) (Va hx14).1]; done))),trivial⟩ rfl rfl
 iterate 7 refine w_ ?_
 refine lc (dB_ (Qdo marks2 ((Yw s.1 mk x13).1)) QjX) ?_
 iterate 7 refine w_ ?_
 cases hb20:(decide ((Yx marks2 ((Yw s.1 mk x13).1)) < 0))
 have hb20':=a6 hb20
 iterate 9 refine w_ ?_
 refine lc (Qi QcX ⟨_,_,rfl,(Qf rfl),⟨_,_,rfl,(Qf rfl),⟨_,_,rfl,(Qf rfl),rfl⟩⟩⟩ (ah.1 rfl) rfl rfl) ?_
 refine lc (dBs 12 (e:=Wi) Ki (hab:=by exact ⟨_,_,_,_,rfl,⟨[dI (k:Int)],[dI x13,dI (Yx marks2 ((Yw s.1 mk x13).1))],_,_,_,_,rfl,rfl,⟨rfl,rfl⟩,⟨[dI x13],[dI (Yx marks2 ((Yw s.1 mk x13).1))],_,_,_,_,rfl,rfl,⟨rfl,rfl⟩,⟨rfl,rfl⟩,rfl⟩,rfl⟩,⟨rfl,rfl⟩,rfl⟩)) ?_
 refine lc (dA 13 QgZ) ?_
 iterate 3 refine w_ ?_
 refine Qc ?_
 iterate 4 refine w_ ?_
 refine Qc<|QE ⟨i+1,marks2,(moves2++([((k:Int),x13,Yx marks2 ((Yw s.1 mk x13).1))])),by2,by omega,rfl,by first | exact hA2.trans (QmW hx14 rfl ‹_› ⟨by omega,rfl⟩) | exact hA2.trans (Qmm hx14 rfl ‹_› (by omega) ‹_›),by first | exact hB2 | exact QmB hB2 (QdY (hB2 _ (a8 hM2)) rfl ‹_›),(by omega),by first | exact hM2 | exact Qq5 hM2,(by simp only[aa,ao,aD]; omega),(by omega),rfl⟩ (by omega) ?_
 exact wp [(10,13)] ⟨rfl,rfl,rfl,rfl,(Qh (by first | rfl | simp)),rfl,trivial⟩
 have hb20':=a7 hb20
 iterate 9 refine w_ ?_
 cases hb21:(decide ((marks2.length:Int)=300))
 have hb21':=a6 hb21
 iterate 14 refine w_ ?_
 refine lc (dBs 14 (e:= .str) U2) ?_
 refine lc (dA 15 Qcd) ?_
 iterate 10 refine w_ ?_
 refine lc (Qi QcX ⟨_,_,rfl,(Qf rfl),⟨_,_,rfl,(Qf rfl),⟨_,_,rfl,(Qf rfl),rfl⟩⟩⟩ (ah.1 rfl) rfl rfl) ?_
 refine lc (dBs 16 (e:=Wi) Ki (hab:=by exact ⟨_,_,_,_,rfl,⟨[dI (k:Int)],[dI x13,dI (marks2.length:Int)],_,_,_,_,rfl,rfl,⟨rfl,rfl⟩,⟨[dI x13],[dI (marks2.length:Int)],_,_,_,_,rfl,rfl,⟨rfl,rfl⟩,⟨rfl,rfl⟩,rfl⟩,rfl⟩,⟨rfl,rfl⟩,rfl⟩)) ?_
 refine lc (dA 17 QgZ) ?_
 iterate 10 refine w_ ?_
 refine lc (Qi QcX ⟨_,_,rfl,(Qf rfl),⟨_,_,rfl,(Qf rfl),⟨_,_,rfl,(Qf rfl),rfl⟩⟩⟩ (ah.1 rfl) rfl rfl) ?_
 refine lc (dBs 18 (e:=Wi) Ki (hab:=by exact ⟨_,_,_,_,rfl,⟨[dI (k:Int)],[dI x13,dI (marks2.length:Int)],_,_,_,_,rfl,rfl,⟨rfl,rfl⟩,⟨[dI x13],[dI (marks2.length:Int)],_,_,_,_,rfl,rfl,⟨rfl,rfl⟩,⟨rfl,rfl⟩,rfl⟩,rfl⟩,⟨rfl,rfl⟩,rfl⟩)) ?_
 refine lc (dA 19 QgZ) ?_
 iterate 3 refine w_ ?_
 refine Qc ?_
 iterate 4 refine w_ ?_
 refine Qc<|QE ⟨i+1,(marks2++([(Yw s.1 mk x13).1])),(moves2++([((k:Int),x13,(marks2.length:Int))])),(by2++([((k:Int),x13,(marks2.length:Int))])),by omega,rfl,by first | exact hA2.trans (QmW hx14 rfl ‹_› ⟨by omega,rfl⟩) | exact hA2.trans (Qmm hx14 rfl ‹_› (by omega) ‹_›),by first | exact hB2 | exact QmB hB2 (QdY (hB2 _ (a8 hM2)) rfl ‹_›),(by (simp only[aa,ao,aD]; omega)),by first | exact hM2 | exact Qq5 hM2,(by simp only[aa,ao,aD]; omega),(by (simp only[aa,ao,aD]; omega)),rfl⟩ (by omega) ?_
 exact wp [(9,15),(10,19),(11,17)] ⟨rfl,rfl,rfl,(Qh (by first | rfl | simp)),(Qh (by first | rfl | simp)),(Qh (by first | rfl | simp)),trivial⟩
 have hb21':=a7 hb21
 iterate 10 refine w_ ?_
 subst hO
 have e22:(0:Int)=((l4V s).2.2.1):=by
  (rw[UV (hA2.trans (UQ hx14 rfl ‹_› (by omega) ‹_›))]; done)
 have e23:((-1):Int)=((l4V s).2.2.2.1):=by
  (rw[UV (hA2.trans (UQ hx14 rfl ‹_› (by omega) ‹_›))]; done)
 have e24:(true:Bool)=((l4V s).2.2.2.2):=by
  (rw[UV (hA2.trans (UQ hx14 rfl ‹_› (by omega) ‹_›))]; done)
 exact QF _ _ [(0,9),(1,10),(2,11)] (Res.one rfl (Qz rfl rfl QgH rfl)) (by rw[← e22,← e23,← e24] <;> rfl) ⟨(Qh (by (rw[UV (hA2.trans (UQ hx14 rfl ‹_› (by omega) ‹_›))]; done))),(Qh (by (rw[UV (hA2.trans (UQ hx14 rfl ‹_› (by omega) ‹_›))]; done))),(Qh (by (rw[UV (hA2.trans (UQ hx14 rfl ‹_› (by omega) ‹_›))]; done))),trivial⟩ rfl rfl
end Go.Proofs.YtjaadeknhofhpaaGreat
namespace Go.Proofs.YtjaadeknhofhpaaGreat
open Go.RowKit
set_option maxRecDepth 100000
set_option maxHeartbeats 4000000
abbrev DMv:=Int×Int×Int
abbrev DAr:=Int×Int×Bool×Int
def QeW (ls:List Zy)(t:Int):Zy:=(ls[t.toNat]?).getD (0,false)
theorem QgO {ls:List Zy}{t:Int}{y:Zy}(h:ls[t.toNat]? =some y):QeW ls t=y:=by unfold QeW; rw[h]; rfl
def QlB (ls:List Zy)(m:DMv):DAr:=(m.1,(QeW ls m.2.1).1,(QeW ls m.2.1).2,m.2.2)
def QW (ls:List Zy)(ms:List DMv):List DAr:=ms.map (QlB ls)
def bv (l:List UInt8)(i:Nat):UInt8:=(l[i]?).getD 0
theorem Yr {l:List UInt8}{i:Nat}{c:UInt8}(h:l[i]? =some c):bv l i=c:=by unfold bv; rw[h]; rfl
def agr (vs:List UInt8)(i j:Nat):List UInt8×Bool×Bool:=
  if bv vs i=bv vs j then (vs,true,false) else if bv vs i=0 then (vs.set i (bv vs j),true,true) else if bv vs j=0 then (vs.set j (bv vs i),true,true) else (vs,false,false)
def agb (vs:List UInt8)(i:Nat)(c:UInt8):List UInt8×Bool×Bool:=
  if bv vs i=c then (vs,true,false) else if bv vs i=0 then (vs.set i c,true,true) else (vs,false,false)
section
variable {vs vs':List UInt8}{i j k:Nat}{a b c:UInt8}
theorem QpD (h1:vs[i]? =some a)(h2:vs[j]? =some b):agr vs i j=if a=b then (vs,true,false) else if a=0 then (vs.set i b,true,true) else if b=0 then (vs.set j a,true,true) else (vs,false,false):=by
  unfold agr; rw[Yr h1,Yr h2]
theorem QkU (h1:vs[i]? =some a):agb vs i c=if a=c then (vs,true,false) else if a=0 then (vs.set i c,true,true) else (vs,false,false):=by
  unfold agb; rw[Yr h1]
theorem Qrm (vs:List UInt8)(i j:Nat):(agr vs i j).1.length=vs.length:=by
  unfold agr; split <;> try rfl
  split <;> try simp
  split <;> simp
theorem Qhw (vs:List UInt8)(i:Nat)(c:UInt8):(agb vs i c).1.length=vs.length:=by
  unfold agb; split <;> try rfl
  split <;> simp
def Vh (vs:List UInt8):Nat:=(vs.filter fun c=>c=0).length
theorem QqF (n:Nat):Vh (List.replicate n 0)=n:=by simp[Vh]
theorem QeP {l:List UInt8}(h:l[i]? =some 0)(hc:c≠0):Vh (l.set i c)+1=Vh l:=by
  induction l generalizing i with
  | nil=>simp at h
  | cons x l ih=>
    cases i with
    | zero=>
      simp only[bJ,ba] at h
      subst h
      simp[Vh,hc]
    | succ i=>
      have:=ih (i:=i) (by simpa using h)
      simp only[Vh,cB,List.filter_cons] at this ⊢
      split <;> simp_all
theorem QrC (h1:i < vs.length)(h2:j < vs.length):Vh (agr vs i j).1≤Vh vs∧((agr vs i j).2.2=true→Vh (agr vs i j).1 < Vh vs)∧((agr vs i j).2.1=true→(agr vs i j).2.2=false→(agr vs i j).1=vs):=by
  have e1:=ai h1
  have e2:=ai h2
  rw[QpD e1 e2]
  split
  · simp
  · rename_i h3
    split
    · rename_i h4
      rw[h4] at e1 h3
      have:=QeP e1 (c:=vs[j]) (fun h=>h3 h.symm)
      simp; omega
    · rename_i h4
      split
      · rename_i h5
        rw[h5] at e2
        have:=QeP e2 h4
        simp; omega
      · simp
theorem Qmz (h1:i < vs.length)(hc:c≠0):Vh (agb vs i c).1≤Vh vs∧((agb vs i c).2.2=true→Vh (agb vs i c).1 < Vh vs)∧((agb vs i c).2.1=true→(agb vs i c).2.2=false→(agb vs i c).1=vs):=by
  have e1:=ai h1
  rw[QkU e1]
  split
  · simp
  · split
    · rename_i h4
      rw[h4] at e1
      have:=QeP e1 hc
      simp; omega
    · simp
end
def JC (sig:Int)(a:DAr)(vs:List UInt8):Option (List UInt8×Bool):=
  if a.2.1=sig then
    (if (agb vs a.1.toNat (if (!a.2.2.1)=true then 49 else 48)).2.1=true∧(agb (agb vs a.1.toNat (if (!a.2.2.1)=true then 49 else 48)).1 a.2.2.2.toNat (if a.2.2.1=true then 49 else 48)).2.1=true then
      some ((agb (agb vs a.1.toNat (if (!a.2.2.1)=true then 49 else 48)).1 a.2.2.2.toNat (if a.2.2.1=true then 49 else 48)).1,(agb vs a.1.toNat (if (!a.2.2.1)=true then 49 else 48)).2.2||(agb (agb vs a.1.toNat (if (!a.2.2.1)=true then 49 else 48)).1 a.2.2.2.toNat (if a.2.2.1=true then 49 else 48)).2.2)
    else none)
  else if (agr vs a.1.toNat a.2.2.2.toNat).2.1=true then some ((agr vs a.1.toNat a.2.2.2.toNat).1,(agr vs a.1.toNat a.2.2.2.toNat).2.2) else none
def US (sig:Int):List DAr→List UInt8→Bool→Option (List UInt8×Bool)
  | [],vs,ch=>some (vs,ch)
  | a :: rs,vs,ch=>match JC sig a vs with
    | none=>none
    | some (vs',c)=>US sig rs vs' (ch||c)
def Qaz (sig:Int)(arcs:List DAr):Nat→List UInt8→Option (List UInt8)
  | 0,vs=>some vs
  | f+1,vs=>match US sig arcs vs false with
    | none=>none
    | some (vs',ch)=>if ch=true then Qaz sig arcs f vs' else some vs'
def QvL (sig:Int)(arcs:List DAr)(f:Nat):Option (List UInt8×Bool)→Option (List UInt8)
  | none=>none
  | some (vs',ch)=>if ch=true then Qaz sig arcs f vs' else some vs'
def fz (c:UInt8):UInt8:=if c=0 then 48 else c
def V3 (n:Nat)(arcs:List DAr)(sig:Int):List UInt8×Bool:=match Qaz sig arcs (n+1) (List.replicate n 0) with
  | none=>([],false)
  | some vs=>(vs.map fz,true)
def InR (n:Int)(a:DAr):Prop:=(0≤a.1∧a.1 < n)∧0≤a.2.2.2∧a.2.2.2 < n
section
variable {sig n:Int}{a:DAr}{vs vs':List UInt8}{arcs rs:List DAr}{ch ch' c:Bool}{f k:Nat}
theorem Qg2 (b:Bool):(if b=true then (49:UInt8) else 48)≠0:=by split <;> decide
theorem HG (hr:InR vs.length a)(h:JC sig a vs=some (vs',c)):vs'.length=vs.length∧Vh vs'≤Vh vs∧(c=true→Vh vs' < Vh vs)∧(c=false→vs'=vs):=by
  obtain ⟨⟨r1,r2⟩,r3,r4⟩:=hr
  unfold JC at h
  have hf0:=Qg2 (!a.2.2.1)
  have ht0:=Qg2 a.2.2.1
  generalize (if (!a.2.2.1)=true then (49:UInt8) else 48)=f0 at h hf0
  generalize (if a.2.2.1=true then (49:UInt8) else 48)=t0 at h ht0
  have k1:=Qmz (vs:=vs) (i:=a.1.toNat) (c:=f0) (by omega) hf0
  have k2:=Qmz (vs:=(agb vs a.1.toNat f0).1) (i:=a.2.2.2.toNat) (c:=t0) (by rw[Qhw]; omega) ht0
  have k3:=QrC (vs:=vs) (i:=a.1.toNat) (j:=a.2.2.2.toNat) (by omega) (by omega)
  have l1:=Qhw vs a.1.toNat f0
  have l2:=Qhw (agb vs a.1.toNat f0).1 a.2.2.2.toNat t0
  have l3:=Qrm vs a.1.toNat a.2.2.2.toNat
  generalize agb (agb vs a.1.toNat f0).1 a.2.2.2.toNat t0=g2 at h k2 l2
  generalize agb vs a.1.toNat f0=g1 at h k1 k2 l1 l2
  generalize agr vs a.1.toNat a.2.2.2.toNat=g3 at h k3 l3
  split at h
  · split at h
    · rename_i h1
      simp only[ba,Prod.mk.injEq] at h
      obtain ⟨rfl,rfl⟩:=h
      refine ⟨l2.trans l1,b4 k2.1 k1.1,fun hc=> ?_,fun hc=> ?_⟩
      · rcases Bool.or_eq_true_iff.1 hc with h | h
        · exact Nat.lt_of_le_of_lt k2.1 (k1.2.1 h)
        · exact bk (k2.2.1 h) k1.1
      · obtain ⟨e1, e2⟩ := Bool.or_eq_false_iff.1 hc
        rw[k2.2.2 h1.2 e2,k1.2.2 h1.1 e1]
    · cases h
  · split at h
    · rename_i h1
      simp only[ba,Prod.mk.injEq] at h
      obtain ⟨rfl,rfl⟩:=h
      exact ⟨l3,k3.1,k3.2.1,k3.2.2 h1⟩
    · cases h
theorem QeE {m:Nat}(hr:∀a∈rs,InR m a)(hl:vs.length=m)(h:US sig rs vs ch=some (vs',ch')):vs'.length=m∧Vh vs'≤Vh vs∧(ch'=true→ch=true∨Vh vs' < Vh vs)∧(ch'=false→vs'=vs∧ch=false):=by
  induction rs generalizing vs ch with
  | nil=>rw[US] at h; cases h; exact ⟨hl,aO _,fun h=> .inl h,fun h=>⟨rfl,h⟩⟩
  | cons a rs ih=>
    rw[US] at h
    cases hs:JC sig a vs with
    | none=>rw[hs] at h; cases h
    | some r=>
      obtain ⟨v1,c1⟩:=r
      rw[hs] at h
      obtain ⟨h1,h2,h3,h4⟩:=HG (by rw[hl]; exact hr a (aA ..)) hs
      obtain ⟨k1,k2,k3,k4⟩:=ih (fun b hb=>hr b (ax _ hb)) (h1.trans hl) h
      refine ⟨k1,b4 k2 h2,fun e=> ?_,fun e=> ?_⟩
      · rcases k3 e with h | h
        · rcases Bool.or_eq_true_iff.1 h with h | h
          · exact .inl h
          · exact .inr (Nat.lt_of_le_of_lt k2 (h3 h))
        · exact .inr (bk h h2)
      · obtain ⟨e1, e2⟩ := k4 e
        obtain ⟨e3,e4⟩:=Bool.or_eq_false_iff.1 e2
        exact ⟨e1.trans (h4 e4),e3⟩
theorem Qat {n:Nat}(h:Qaz sig arcs (n+1) (List.replicate n 0)=none):V3 n arcs sig=([],false):=by unfold V3; rw[h]
theorem Qob {n:Nat}(h:Qaz sig arcs (n+1) (List.replicate n 0)=some vs):V3 n arcs sig=(vs.map fz,true):=by unfold V3; rw[h]
def QvQ (vs:List UInt8)(k:Nat):List UInt8:=(vs.take k).map fz++vs.drop k
end
theorem Xl (s:List (ByteArray×Int))(hl:s.length≤1000000):FC Tryz.prog 216 [(false,[.dat Qo s])] [] 0 (Xe 90 QK s):=by
 refine Qy Tryz.func216 rfl rfl Tryz.ntmps216 fun O_ hO w0_ N0_ X_ h0_ f0_=> ?_
 iterate 6 refine w_ ?_
 refine Qje (Qa rfl) Evl.val QbU rfl fun b1 hnil=> ?_
 refine w_ ?_
 cases hb2:(b1)
 iterate 3 refine w_ ?_
 refine lc (dBs 0 (e:=QK) Vp) ?_
 refine w_ ?_
 refine lc (ZH 1 (Qa rfl) rfl (Evl.rep (Qa rfl)) rfl QbU Jg (by first | omega | (simp only[aa,aF,ak,ao,aD]; omega) | (simp only[aa,bn,ak,ao,aD]; omega)) rfl (Fresh.of rfl) (nlr rfl)) ?_
 iterate 3 refine w_ ?_
 subst hO
 refine Zc (e:=QK) (xs:=(([])++s)) (Res.one rfl (Qb rfl)) rfl ?_
 rfl
 iterate 4 refine w_ ?_
 refine AC.wk (Wk.nilS 2 2 90 QK rfl (Fresh.of rfl) (nlr rfl))<|Zf ?_
 subst hO
 refine Zc (e:=QK) (xs:=([])) (Res.one rfl (Qb rfl)) rfl ?_
 exact (hnil ‹_›).symm
end Go.Proofs.YtjaadeknhofhpaaGreat
namespace Go.Proofs.YtjaadeknhofhpaaGreat
open Go.RowKit
set_option maxRecDepth 100000
set_option maxHeartbeats 4000000
def YO (sig:Int)(a:DAr)(us:List UInt8):Option (List UInt8):=
  if a.2.1=sig then
    (if (bv us a.1.toNat≠63∧bv us a.1.toNat≠(if (!a.2.2.1)=true then 49 else 48))∨(bv us a.2.2.2.toNat≠63∧bv us a.2.2.2.toNat≠(if a.2.2.1=true then 49 else 48)) then none
    else some ((us.set a.1.toNat (if (!a.2.2.1)=true then 49 else 48)).set a.2.2.2.toNat (if a.2.2.1=true then 49 else 48)))
  else if bv us a.1.toNat=63 then some ((us.set a.1.toNat (bv us a.2.2.2.toNat)).set a.2.2.2.toNat (bv us a.2.2.2.toNat))
  else if bv us a.2.2.2.toNat≠63∧bv us a.2.2.2.toNat≠bv us a.1.toNat then none
  else some ((us.set a.1.toNat (bv us a.1.toNat)).set a.2.2.2.toNat (bv us a.1.toNat))
def Xo (sig:Int):List DAr→List UInt8→Option (List UInt8)
  | [],us=>some us
  | a :: rs,us=>match YO sig a us with
    | none=>none
    | some us'=>Xo sig rs us'
def WH (sig:Int)(arcs:List DAr):Nat→List UInt8→Option (List UInt8)
  | 0,us=>some us
  | f+1,us=>match Xo sig arcs us with
    | none=>none
    | some us'=>WH sig arcs f us'
def Hr (sig:Int)(arcs:List DAr)(f:Nat):Option (List UInt8)→Option (List UInt8)
  | none=>none
  | some us'=>WH sig arcs f us'
def l5V (n:Nat)(arcs:List DAr)(sig:Int):ByteArray×Bool:=match WH sig arcs (n+1) (List.replicate n 63) with
  | none=>(⟨#[]⟩,false)
  | some us=>(⟨us.toArray⟩,true)
section
variable {sig:Int}{a:DAr}{us us' vs vs':List UInt8}{arcs rs:List DAr}{f k m:Nat}{cf ct x:UInt8}{ch ch':Bool}{i j:Nat}
theorem Vc (hx:arcs[k]? =some a)(h:YO sig a us=some us'):Xo sig (arcs.drop k) us=Xo sig (arcs.drop (k+1)) us':=by rw[Yb hx,Xo,h]
theorem Wb (hx:arcs[k]? =some a)(h:YO sig a us=none):Xo sig (arcs.drop k) us=none:=by rw[Yb hx,Xo,h]
theorem Qnj (hk:arcs.length≤k):Xo sig (arcs.drop k) us=some us:=by rw[bt hk,Xo]
theorem Qo1 (f:Nat)(us:List UInt8):WH sig arcs (f+1) us=Hr sig arcs f (Xo sig arcs us):=by
  rw[WH]; cases Xo sig arcs us <;> rfl
theorem Vr {n:Nat}(h:WH sig arcs (n+1) (List.replicate n 63)=none):l5V n arcs sig=(⟨#[]⟩,false):=by unfold l5V; rw[h]
theorem QgN {n:Nat}(h:WH sig arcs (n+1) (List.replicate n 63)=some us):l5V n arcs sig=(⟨us.toArray⟩,true):=by unfold l5V; rw[h]
def qm (c:UInt8):UInt8:=if c=0 then 63 else c
def Kn (vs:List UInt8):Prop:=∀c∈vs,c=0∨c=48∨c=49
theorem Kn.set (h:Kn vs){c:UInt8}(hc:c=0∨c=48∨c=49)(i:Nat):Kn (vs.set i c):=fun d hd=>by
  rcases bV hd with h1 | h1
  · exact h d h1
  · rw[h1]; exact hc
theorem Kn.at (h:Kn vs)(hi:i < vs.length):∃c,vs[i]? =some c∧(c=0∨c=48∨c=49):=⟨_,ai hi,h _ (cI hi)⟩
theorem U1 {c:UInt8}(h:vs[i]? =some c):vs.set i c=vs:=by
  apply bz
  intro j
  by_cases e:i=j
  · subst e; rw[aR (ab.1 h).1,h]
  · rw[aZ e]
theorem QpP (hi:vs[i]? =some cf):bv (vs.map qm) i=qm cf:=Yr (by rw[b6,hi]; rfl)
theorem QvI (b:Bool):((if b=true then (49:UInt8) else 48)=49∧(if (!b)=true then (49:UInt8) else 48)=48)∨((if b=true then (49:UInt8) else 48)=48∧(if (!b)=true then (49:UInt8) else 48)=49):=by cases b <;> simp
theorem QrF (hne:i≠j)(c:UInt8)(h:vs[j]? =some ct):(agb vs i c).1[j]? =some ct:=by
  unfold agb
  split
  · exact h
  · split
    · show (vs.set i c)[j]? = _
      rw[aZ hne]; exact h
    · exact h
theorem Qoa (hk:Kn vs)(hr:InR vs.length a)(hself:a.2.1=sig→a.1≠a.2.2.2):YO sig a (vs.map qm)=(JC sig a vs).map (fun r=>r.1.map qm)∧∀vs' c,JC sig a vs=some (vs',c)→Kn vs':=by
  obtain ⟨⟨r1,r2⟩,r3,r4⟩:=hr
  obtain ⟨cf,hf,kf⟩:=hk.at (i:=a.1.toNat) (by omega)
  obtain ⟨ct,ht,kt⟩:=hk.at (i:=a.2.2.2.toNat) (by omega)
  unfold YO JC
  rw[QpP hf,QpP ht]
  by_cases hl:a.2.1=sig
  · rw [if_pos hl, if_pos hl]
    have hne:a.1.toNat≠a.2.2.2.toNat:=by have:=hself hl; omega
    have hg:=fun c=>QrF (vs:=vs) hne c ht
    rw[QkU (hg _),QkU hf]
    have hset:∀c d:UInt8,((vs.map qm).set a.1.toNat c).set a.2.2.2.toNat d=((vs.map qm).set a.2.2.2.toNat d).set a.1.toNat c:=fun c d=>List.set_comm _ _ hne
    have hf2:∀d,(vs.set a.2.2.2.toNat d)[a.1.toNat]? =some cf:=fun d=>by rw[aZ (Ne.symm hne)]; exact hf
    have mf:(vs.map qm)[a.1.toNat]? =some (qm cf):=by rw[b6,hf]; rfl
    have mt:(vs.map qm)[a.2.2.2.toNat]? =some (qm ct):=by rw[b6,ht]; rfl
    have mt2:∀d,((vs.map qm).set a.1.toNat d)[a.2.2.2.toNat]? =some (qm ct):=fun d=>by rw[aZ hne]; exact mt
    have s1:=U1 mf
    have s2:=U1 mt
    have s3:=fun d=>U1 (mt2 d)
    rcases QvI a.2.2.1 with ⟨e1,e2⟩ | ⟨e1,e2⟩ <;> rw[e1,e2] <;> rcases kf with rfl | rfl | rfl <;> rcases kt with rfl | rfl | rfl <;> simp only[qm] at s1 s2 s3 ⊢ <;> simp[List.map_set,qm,s1,s2,s3] at* <;> first | done | (refine ⟨?_, ?_⟩ <;> first | (simp_all; done) | (intros; subst_vars; first | exact (hk.set (.inr (.inl rfl)) _).set (.inr (.inr rfl)) _ | exact (hk.set (.inr (.inr rfl)) _).set (.inr (.inl rfl)) _ | exact hk.set (.inr (.inl rfl)) _ | exact hk.set (.inr (.inr rfl)) _ | exact hk)) | (intros; subst_vars; first | exact (hk.set (.inr (.inl rfl)) _).set (.inr (.inr rfl)) _ | exact (hk.set (.inr (.inr rfl)) _).set (.inr (.inl rfl)) _ | exact hk.set (.inr (.inl rfl)) _ | exact hk.set (.inr (.inr rfl)) _ | exact hk) | (simp_all; done)
  · rw [if_neg hl, if_neg hl, QpD hf ht]
    have mf:(vs.map qm)[a.1.toNat]? =some (qm cf):=by rw[b6,hf]; rfl
    have mt:(vs.map qm)[a.2.2.2.toNat]? =some (qm ct):=by rw[b6,ht]; rfl
    have s1:=U1 mf
    have s2:=U1 mt
    have s3:((vs.map qm).set a.1.toNat (qm ct)).set a.2.2.2.toNat (qm ct)=(vs.map qm).set a.1.toNat (qm ct):=by
      by_cases e:a.1.toNat=a.2.2.2.toNat
      · rw[e,cR]
      · exact U1 (by rw[aZ e]; exact mt)
    rcases kf with rfl | rfl | rfl <;> rcases kt with rfl | rfl | rfl <;> simp only[qm] at s1 s2 s3 ⊢ <;> simp[List.map_set,qm,s1,s2,s3] at* <;> first | done | (refine ⟨?_, ?_⟩ <;> first | (simp_all; done) | (intros; subst_vars; first | exact hk.set (.inr (.inl rfl)) _ | exact hk.set (.inr (.inr rfl)) _ | exact hk)) | (intros; subst_vars; first | exact hk.set (.inr (.inl rfl)) _ | exact hk.set (.inr (.inr rfl)) _ | exact hk) | (simp_all; done)
theorem Qns (hr:∀a∈rs,InR m a)(hs:∀a∈rs,a.2.1=sig→a.1≠a.2.2.2)(hk:Kn vs)(hl:vs.length=m):Xo sig rs (vs.map qm)=(US sig rs vs ch).map (fun r=>r.1.map qm)∧∀vs' c,US sig rs vs ch=some (vs',c)→Kn vs':=by
  induction rs generalizing vs ch with
  | nil=>exact ⟨rfl,fun vs' c h=>by rw[US] at h; cases h; exact hk⟩
  | cons a rs ih=>
    obtain ⟨h1,h2⟩:=Qoa hk (by rw[hl]; exact hr a (aA ..)) (hs a (aA ..))
    rw[Xo,US,h1]
    cases hst:JC sig a vs with
    | none=>exact ⟨rfl,fun vs' c h=>by cases h⟩
    | some r=>
      obtain ⟨v1,c1⟩:=r
      exact ih (fun b hb=>hr b (ax _ hb)) (fun b hb=>hs b (ax _ hb)) (h2 _ _ hst) ((HG (by rw[hl]; exact hr a (aA ..)) hst).1.trans hl)
theorem Qgg (h:Xo sig arcs us=some us):∀f,WH sig arcs f us=some us
  | 0=>rfl
  | f+1=>by rw[WH,h]; exact Qgg h f
theorem QhQ (hr:∀a∈arcs,InR m a)(hs:∀a∈arcs,a.2.1=sig→a.1≠a.2.2.2):∀{f:Nat} {vs:List UInt8},Kn vs→vs.length=m→Vh vs < f→WH sig arcs f (vs.map qm)=(Qaz sig arcs f vs).map (List.map qm)∧∀vs',Qaz sig arcs f vs=some vs'→Kn vs'
  | 0,_,_,_,h=>by omega
  | f+1,vs,hk,hl,h=>by
    obtain ⟨h1,h2⟩:=Qns (ch:=false) hr hs hk hl
    rw[WH,Qaz,h1]
    cases hp:US sig arcs vs false with
    | none=>exact ⟨rfl,fun vs' h=>by cases h⟩
    | some r=>
      obtain ⟨v1,c1⟩:=r
      obtain ⟨k1,k2,k3,k4⟩:=QeE hr hl hp
      cases c1 with
      | true=>
        rcases k3 rfl with h3 | h3
        · cases h3
        · have h3 : Vh v1 < Vh vs := h3
          exact QhQ hr hs (h2 _ _ hp) k1 (show Vh v1 < f by omega)
      | false=>
        obtain ⟨rfl,_⟩:=k4 rfl
        rw[hp] at h1
        exact ⟨Qgg h1 f,fun vs' h=>by cases h; exact hk⟩
theorem Qmj (vs:List UInt8)(i:Nat)(c:UInt8):agb vs i c=if bv vs i=c then (vs,true,false) else if bv vs i=0 then (vs.set i c,true,true) else (vs,false,false):=rfl
theorem Qlo (hl:a.2.1=sig)(he:a.1=a.2.2.2)(hi:a.1.toNat < vs.length):JC sig a vs=none:=by
  unfold JC
  rw[if_pos hl,← he]
  have h0:=Qg2 a.2.2.1
  have h1:=Qg2 (!a.2.2.1)
  have h2:(if (!a.2.2.1)=true then (49:UInt8) else 48)≠(if a.2.2.1=true then 49 else 48):=by cases a.2.2.1 <;> decide
  generalize (if (!a.2.2.1)=true then (49:UInt8) else 48)=f0 at h1 h2 ⊢
  generalize (if a.2.2.1=true then (49:UInt8) else 48)=t0 at h0 h2 ⊢
  rw[if_neg]
  rintro ⟨k1,k2⟩
  have k3:bv (agb vs a.1.toNat f0).1 a.1.toNat=f0:=by
    rw[Qmj] at k1 ⊢
    split
    · assumption
    · rename_i h3
      rw[if_neg h3] at k1
      split
      · exact Yr (aR hi)
      · rename_i h4
        rw[if_neg h4] at k1
        cases k1
  rw[Qmj (agb vs a.1.toNat f0).1,k3,if_neg h2,if_neg h1] at k2
  cases k2
theorem QjK {b:DAr}(hr:∀a∈rs,InR m a)(hlen:vs.length=m)(hm:b∈rs)(hl:b.2.1=sig)(he:b.1=b.2.2.2):US sig rs vs ch=none:=by
  induction rs generalizing vs ch with
  | nil=>cases hm
  | cons a rs ih=>
    have ha:=hr a (aA ..)
    rw[US]
    cases hst:JC sig a vs with
    | none=>rfl
    | some r=>
      obtain ⟨v1,c1⟩:=r
      rcases aH.1 hm with rfl | hm
      · have := ha.1
        rw[Qlo hl he (by omega)] at hst
        cases hst
      · exact ih (fun b hb=>hr b (ax _ hb)) ((HG (by rw[hlen]; exact ha) hst).1.trans hlen) hm
theorem QnI (h:YO sig a us=some us'):us'.length=us.length:=by
  unfold YO at h
  generalize (if (!a.2.2.1)=true then (49:UInt8) else 48)=f0 at h
  generalize (if a.2.2.1=true then (49:UInt8) else 48)=t0 at h
  split at h
  · split at h
    · cases h
    · cases h; simp
  · split at h
    · cases h; simp
    · split at h
      · cases h
      · cases h; simp
theorem QdP {c:UInt8}(h:YO sig a us=some us')(hc:us[i]? =some c)(h0:c≠63):us'[i]? =some c:=by
  have hi:=(ab.1 hc).1
  have hset:∀x y:UInt8,(i=a.2.2.2.toNat→y=c)→(i=a.1.toNat→x=c)→((us.set a.1.toNat x).set a.2.2.2.toNat y)[i]? =some c:=fun x y h1 h2=>by
    by_cases e1:a.2.2.2.toNat=i
    · rw[e1,aR (by simpa using hi),h1 e1.symm]
    · rw [aZ e1]
      by_cases e2:a.1.toNat=i
      · rw[e2,aR hi,h2 e2.symm]
      · rw[aZ e2]; exact hc
  unfold YO at h
  generalize (if (!a.2.2.1)=true then (49:UInt8) else 48)=f0 at h
  generalize (if a.2.2.1=true then (49:UInt8) else 48)=t0 at h
  split at h
  · split at h
    · cases h
    · rename_i h2
      cases h
      refine hset _ _ (fun e=> ?_) (fun e=> ?_)
      · rw [← e, Yr hc] at h2
        exact cE fun h3=>h2 (.inr ⟨h0,fun e=>h3 e.symm⟩)
      · rw [← e, Yr hc] at h2
        exact cE fun h3=>h2 (.inl ⟨h0,fun e=>h3 e.symm⟩)
  · split at h
    · rename_i h2
      cases h
      refine hset _ _ (fun e=> ?_) (fun e=> ?_)
      · rw[← e,Yr hc]
      · rw[← e,Yr hc] at h2; exact absurd h2 h0
    · split at h
      · cases h
      · rename_i h2 h3
        cases h
        refine hset _ _ (fun e=> ?_) (fun e=> ?_)
        · rw [← e, Yr hc] at h3
          exact cE fun h4=>h3 ⟨h0,fun e=>h4 e.symm⟩
        · rw[← e,Yr hc]
theorem QjF {c:UInt8}(h:Xo sig rs us=some us')(hc:us[i]? =some c)(h0:c≠63):us'[i]? =some c:=by
  induction rs generalizing us with
  | nil=>rw[Xo] at h; cases h; exact hc
  | cons a rs ih=>
    rw[Xo] at h
    cases hst:YO sig a us with
    | none=>rw[hst] at h; cases h
    | some u1=>rw[hst] at h; exact ih h (QdP hst hc h0)
theorem Qls {b:DAr}(hm:b∈rs)(hl:b.2.1=sig)(he:b.1=b.2.2.2)(hi:b.1.toNat < us.length)(h:Xo sig rs us=some us'):∃c,us'[b.1.toNat]? =some c∧c≠63:=by
  induction rs generalizing us with
  | nil=>cases hm
  | cons a rs ih=>
    rw[Xo] at h
    cases hst:YO sig a us with
    | none=>rw[hst] at h; cases h
    | some u1=>
      rw[hst] at h
      rcases aH.1 hm with rfl | hm
      · have h2:u1[b.1.toNat]? =some (if b.2.2.1=true then 49 else 48):=by
          unfold YO at hst
          rw[if_pos hl] at hst
          generalize (if (!b.2.2.1)=true then (49:UInt8) else 48)=f0 at hst
          generalize (if b.2.2.1=true then (49:UInt8) else 48)=t0 at hst ⊢
          split at hst
          · cases hst
          · cases hst
            rw[← he,aR (by simpa using hi)]
        have h3:(if b.2.2.1=true then (49:UInt8) else 48)≠63:=by cases b.2.2.1 <;> decide
        exact ⟨_,QjF h h2 h3,h3⟩
      · exact ih hm (by rw[QnI hst]; exact hi) h
theorem Qlh {b:DAr}{c:UInt8}(hm:b∈rs)(hl:b.2.1=sig)(he:b.1=b.2.2.2)(hc:us[b.1.toNat]? =some c)(h0:c≠63):Xo sig rs us=none:=by
  induction rs generalizing us with
  | nil=>cases hm
  | cons a rs ih=>
    rw[Xo]
    rcases aH.1 hm with rfl | hm
    · have:YO sig b us=none:=by
        unfold YO
        rw[if_pos hl,← he,Yr hc,if_pos]
        have h2:(if (!b.2.2.1)=true then (49:UInt8) else 48)≠(if b.2.2.1=true then 49 else 48):=by cases b.2.2.1 <;> decide
        by_cases e:c=(if (!b.2.2.1)=true then (49:UInt8) else 48)
        · exact .inr ⟨h0,fun e2=>h2 (e.symm.trans e2)⟩
        · exact .inl ⟨h0,e⟩
      rw[this]
    · cases hst : YO sig a us with
      | none=>rfl
      | some u1=>exact ih hm (QdP hst hc h0)
def q0 (c:UInt8):UInt8:=if c=63 then 48 else c
theorem Quk (hk:Kn vs):(vs.map qm).map q0=vs.map fz:=by
  rw[d9]
  refine List.map_congr_left fun c hc=> ?_
  rcases hk c hc with rfl | rfl | rfl <;> rfl
theorem QdQ {n:Nat}(hr:∀a∈arcs,InR n a):((l5V n arcs sig).2=false∧(V3 n arcs sig).2=false∧l5V n arcs sig=(⟨#[]⟩,false)∧V3 n arcs sig=([],false))∨∃us:List UInt8,l5V n arcs sig=(⟨us.toArray⟩,true)∧us.length=n∧V3 n arcs sig=(us.map q0,true):=by
  by_cases hself:∃b∈arcs,b.2.1=sig∧b.1=b.2.2.2
  · obtain ⟨b, hb, hl, he⟩ := hself
    have hV:Qaz sig arcs (n+1) (List.replicate n 0)=none:=by rw[Qaz,QjK hr (by simp) hb hl he]
    obtain ⟨⟨r1,r2⟩,_,_⟩:=hr b hb
    have hS:WH sig arcs (n+1) (List.replicate n 63)=none:=by
      obtain ⟨n',rfl⟩:∃n',n=n'+1:=⟨n - 1,by omega⟩
      rw[WH]
      cases hp:Xo sig arcs (List.replicate (n'+1) 63) with
      | none=>rfl
      | some u1=>
        obtain ⟨c,h1,h2⟩:=Qls hb hl he (by simp; omega) hp
        show WH sig arcs (n'+1) u1=none
        rw[WH,Qlh hb hl he h1 h2]
    exact .inl ⟨by rw[Vr hS],by rw[Qat hV],Vr hS,Qat hV⟩
  · have hs : ∀ a ∈ arcs, a.2.1 = sig → a.1 ≠ a.2.2.2 := fun a ha h1 h2 => hself ⟨a, ha, h1, h2⟩
    obtain ⟨h1,h2⟩:=QhQ (f:=n+1) (vs:=List.replicate n 0) hr hs (fun c hc=> .inl (cG hc)) (by simp) (by rw[QqF]; omega)
    have e:(List.replicate n (0:UInt8)).map qm=List.replicate n 63:=by rw[List.map_replicate]; rfl
    rw[e] at h1
    cases hv:Qaz sig arcs (n+1) (List.replicate n 0) with
    | none=>
      rw[hv] at h1
      exact .inl ⟨by rw[Vr h1],by rw[Qat hv],Vr h1,Qat hv⟩
    | some vs=>
      rw[hv] at h1
      refine .inr ⟨vs.map qm,QgN h1, ?_, ?_⟩
      · have:∀{f:Nat} {v v':List UInt8},v.length=n→Qaz sig arcs f v=some v'→v'.length=n:=fun {f}=>by
          induction f with
          | zero=>intro v v' hl h; rw[Qaz] at h; cases h; exact hl
          | succ f ih=>
            intro v v' hl h
            rw[Qaz] at h
            cases hp:US sig arcs v false with
            | none=>rw[hp] at h; cases h
            | some r=>
              obtain ⟨v1,c1⟩:=r
              rw[hp] at h
              have k1:=(QeE hr hl hp).1
              cases c1 with
              | true=>exact ih k1 h
              | false=>cases h; exact k1
        rw[aF]
        exact this (by simp) hv
      · rw[Qob hv,Quk (h2 _ hv)]
end
end Go.Proofs.YtjaadeknhofhpaaGreat
