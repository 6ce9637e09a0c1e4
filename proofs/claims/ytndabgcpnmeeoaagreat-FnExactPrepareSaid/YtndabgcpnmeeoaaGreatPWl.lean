/- Walks over abstract states: reachability. -/
import Derived.Test.YtndabgcpnmeeoaaGreatPWk
set_option linter.unusedSimpArgs false
set_option linter.unusedVariables false
set_option linter.unusedSectionVars false
namespace Go.Proofs.YtndabgcpnmeeoaaGreat
open Go.RowKit
set_option maxRecDepth 100000
set_option maxHeartbeats 4000000
abbrev RS:=List ByteArray×List (Int×Int×Int)×List (Int×Int×Int)
abbrev Qkb:=Int×Int×Bool
def Ys (l:List ByteArray)(x:ByteArray):Int:=Zq (fun y=>decide (y=x)) l
def goT (n:V8)(k:Nat)(mk:ByteArray):List Int→RS→RS×Qkb
 | [],st=>(st,(-1, -1,true))
 | t :: ts,st=>
  if (Yn n mk t).2=false then (st,(k,t,false))
  else if 0≤Ys st.1 (Yn n mk t).1 then goT n k mk ts (st.1,st.2.1++[((k:Int),t,Ys st.1 (Yn n mk t).1)],st.2.2)
  else if st.1.length=300 then (st,(-1, -1,false))
  else goT n k mk ts (st.1++[(Yn n mk t).1],st.2.1++[((k:Int),t,(st.1.length:Int))],st.2.2++[((k:Int),t,(st.1.length:Int))])
def goK (n:V8):Nat→Nat→RS→RS×Qkb
 | 0,_,st=>(st,(-1, -1,true))
 | f+1,k,st=>match st.1[k]? with
  | none=>(st,(-1, -1,true))
  | some mk=>if (goT n k mk (Vo n mk) st).2.2.2=true then goK n f (k+1) (goT n k mk (Vo n mk) st).1 else goT n k mk (Vo n mk) st
def QaA (n:V8)(f k:Nat)(r:RS×Qkb):RS×Qkb:=if r.2.2.2=true then goK n f (k+1) r.1 else r
def ZV (s:Yz):RS×Qkb:=goK s.1 301 0 ([s.2.2.2],[],[((0:Int),(0:Int),(0:Int))])
def exV (s:Yz):(List ByteArray×List (Int×Int×Int))×Int×Int×Bool:=(((ZV s).1.1,(ZV s).1.2.1),(ZV s).2)
def l4V (s:Yz):(List ByteArray×List (Int×Int×Int))×List (Int×Int×Int)×Int×Int×Bool:=
 (((ZV s).1.1,(ZV s).1.2.1),(ZV s).1.2.2,(if 0≤(ZV s).2.2.1 then (ZV s).2.1 else 0),(ZV s).2.2.1,(!(ZV s).2.2.2&&decide ((ZV s).2.2.1 < 0)))
def Qou:List ByteArray×List (Int×Int×Int):=([],[])
section
variable [∀s,Decidable (StgOk s)]
def Qg (s:Yz):(List ByteArray×List (Int×Int×Int))×Bool:=if StgOk s∧(ZV s).2.2.2=true then (((ZV s).1.1,(ZV s).1.2.1),true) else (Qou,false)
end
theorem Qqs (l:List ByteArray)(x y:ByteArray):Ys (l++[y]) x=if 0≤Ys l x then Ys l x else if y=x then (l.length:Int) else -1:=by
 unfold Ys Zq
 rw[List.findIdx?_append]
 cases h:l.findIdx? (fun z=>decide (z=x)) with
 | some i=>simp
 | none=>
  by_cases e:y=x
  ·simp[e]
  ·simp[e]
def IdxOf (Qs:List ByteArray)(idx:List (ByteArray×Int)):Prop:=∀x,Yr .str idx x=if 0≤Ys Qs x then some (Ys Qs x) else none
section
variable {Qs:List ByteArray}{idx:List (ByteArray×Int)}{x:ByteArray}{v b:List (Int×Int×Int)}{n:V8}{k f i:Nat}{mk:ByteArray}{t:Int}{ts:List Int}{r:ByteArray×Bool}{j:Int}{s:Yz}{e:Qkb}
theorem IdxOf.old (h:IdxOf Qs idx)(c:(Yr .str idx x).isSome=true):0≤Ys Qs x∧(Yr .str idx x).getD (Ty.zero .int)=Ys Qs x:=by
 rw[h x] at c ⊢
 by_cases a:0≤Ys Qs x
 ·rw[if_pos a]; exact ⟨a,rfl⟩
 ·rw[if_neg a] at c; cases c
theorem IdxOf.new (h:IdxOf Qs idx)(a:(Yr .str idx x).isSome=false):¬0≤Ys Qs x:=by
 rw[h x] at a
 intro c
 rw[if_pos c] at a; cases a
theorem IdxOf.set (h:IdxOf Qs idx)(d:(Yr .str idx x).isSome=false):IdxOf (Qs++[x]) (WC .str idx x (Qs.length:Int)):=fun y=>by
 have c:=h.new d
 rw[Qh6,Qqs,h y]
 by_cases e:x=y
 ·subst e
  rw[if_pos ((Ty.beq_iff .str x x).2 rfl),if_neg c,if_pos rfl,if_pos (bC _)]
 ·have:Ty.beq .str x y=false:=cq.2 fun h=>e ((Ty.beq_iff .str x y).1 h)
  rw[if_neg (show¬Ty.beq .str x y=true by rw[this]; decide),if_neg e]
  by_cases a:0≤Ys Qs y
  ·rw[if_pos a,if_pos a,if_pos a]
  ·rw[if_neg a,if_neg a,if_neg (by decide)]
theorem IdxOf.one (x:ByteArray):IdxOf [x] (WC .str ([]:List (ByteArray×Int)) x 0):=fun y=>by
 rw[Qh6]
 by_cases e:x=y
 ·subst e
  rw[if_pos ((Ty.beq_iff .str x x).2 rfl)]
  simp[Ys,Zq]
 ·have:Ty.beq .str x y=false:=cq.2 fun h=>e ((Ty.beq_iff .str x y).1 h)
  rw[if_neg (show¬Ty.beq .str x y=true by rw[this]; decide)]
  simp[Ys,Zq,e,Yr]
theorem WB (d:ts[i]? =some t)(c:r=Yn n mk t)(a:r.2=false):QaA n f k (goT n k mk (ts.drop i) (Qs,v,b))=((Qs,v,b),((k:Int),t,false)):=by
 subst c
 rw[ZB d,goT,if_pos a]
 rfl
theorem QeG (g:ts[i]? =some t)(d:r=Yn n mk t)(c:r.2=true)(a:0≤Ys Qs r.1∧j=Ys Qs r.1):QaA n f k (goT n k mk (ts.drop i) (Qs,v,b))=QaA n f k (goT n k mk (ts.drop (i+1)) (Qs,v++[((k:Int),t,j)],b)):=by
 subst d
 rw[ZB g,goT,if_neg (by rw[c]; decide),if_pos a.1,a.2]
theorem Xt (g:ts[i]? =some t)(d:r=Yn n mk t)(a:r.2=true)(c:¬0≤Ys Qs r.1)(h:(Qs.length:Int)=300):QaA n f k (goT n k mk (ts.drop i) (Qs,v,b))=((Qs,v,b),(-1, -1,false)):=by
 subst d
 rw[ZB g,goT,if_neg (by rw[a]; decide),if_neg c,if_pos (show Qs.length=300 by omega)]
 rfl
theorem QeF (g:ts[i]? =some t)(d:r=Yn n mk t)(a:r.2=true)(c:¬0≤Ys Qs r.1)(h:¬(Qs.length:Int)=300):QaA n f k (goT n k mk (ts.drop i) (Qs,v,b))=QaA n f k (goT n k mk (ts.drop (i+1)) (Qs++[r.1],v++[((k:Int),t,(Qs.length:Int))],b++[((k:Int),t,(Qs.length:Int))])):=by
 subst d
 rw[ZB g,goT,if_neg (by rw[a]; decide),if_neg c,if_neg (show¬Qs.length=300 by omega)]
theorem Qo8 (hi:ts.length≤i)(a:k < 300):QaA n (300 - k) k (goT n k mk (ts.drop i) (Qs,v,b))=goK n (301 - (k+1)) (k+1) (Qs,v,b):=by
 rw[bn hi,goT,show 301 - (k+1)=300 - k by omega]
 rfl
theorem Qsu (a:Qs[k]? =some mk)(c:k < 300):goK n (301 - k) k (Qs,v,b)=QaA n (300 - k) k (goT n k mk (Vo n mk) (Qs,v,b)):=by
 rw[show 301 - k=(300 - k)+1 by omega,goK]
 simp only[a]
 rfl
theorem WA (a:Qs.length≤k):goK n f k (Qs,v,b)=((Qs,v,b),(-1, -1,true)):=by
 cases f with
 | zero=>rfl
 | succ f=>
  rw[goK]
  simp only[bG a]
theorem X6 (h:∃b,ZV s=((Qs,v,b),e)):exV s=((Qs,v),e):=by
 obtain ⟨b,h⟩:=h
 unfold exV; rw[h]
theorem Qn0 (h:ZV s=((Qs,v,b),e)):l4V s=((Qs,v),b,(if 0≤e.2.1 then e.1 else 0),e.2.1,(!e.2.2&&decide (e.2.1 < 0))):=by
 unfold l4V; rw[h]
theorem Qab (h:ZV s=((Qs,v,b),((k:Int),t,false)))(h0:0≤t):l4V s=((Qs,v),b,(k:Int),t,false):=by
 rw[Qn0 h]
 simp[h0]
theorem KQ (h:ZV s=((Qs,v,b),(-1, -1,false))):l4V s=((Qs,v),b,0, -1,true):=by
 rw[Qn0 h]; rfl
theorem Qdq (h:ZV s=((Qs,v,b),(-1, -1,true))):l4V s=((Qs,v),b,0, -1,false):=by
 rw[Qn0 h]; rfl
theorem QrV {m:ByteArray}{n:Int}(h:U5 m n){p:Int}(h0:0≤p)(d:p < n):(0≤p∧p < m.size)∧(bAt m p=48∨bAt m p=49):=by
 obtain ⟨c,g⟩:=h
 have a:p.toNat < m.size:=by omega
 refine ⟨⟨h0,by omega⟩, ?_⟩
 have e:bAt m p=m[p.toNat]:=by unfold bAt; rw[dr m p.toNat a]; rfl
 rw[e]
 rcases c p.toNat a a with h | h
 ·exact .inl (UInt8.toNat_inj.1 h)
 ·exact .inr (UInt8.toNat_inj.1 h)
theorem Qin {m:ByteArray}{n:Int}(h:U5 m n){ps:List Int}(d:QcO ps (n - 1)):Hc m ps:=fun p c=>by
 obtain ⟨j,a⟩:=aN.1 c
 have:=(d j (ai.1 a).1 p a).1
 exact QrV h (by omega) (by omega)
theorem QsV (hv:Qfe n)(h:U5 mk n.1):∀t∈n.2,Hc mk t.1∧Hc mk t.2:=fun t a=>⟨Qin h (hv.2.2 t a).2.1,Qin h (hv.2.2 t a).2.2⟩
theorem ZM (g:(Vo n mk)[i]? =some t):YD n mk t=Yn n mk t:=by
 obtain ⟨x,a,h,l,c,d⟩:=Qij (ah g)
 exact Quy a c d
theorem Vp (d:(Vo n mk)[i]? =some t):0≤t∧t < n.2.length:=by
 obtain ⟨x,a,c,_⟩:=Qij (ah d)
 exact ⟨a,c⟩
theorem Qfz (n:V8)(mk:ByteArray):(Vo n mk).length≤n.2.length:=Qdx _ _ _
def LBits (l:List UInt8):Prop:=∀c∈l,c=48∨c=49
theorem LBits.set {l:List UInt8}(h:LBits l){c:UInt8}(g:c=48∨c=49)(i:Nat):LBits (l.set i c):=fun d m=>by
 rcases cr m with a | a
 ·exact h d a
 ·rw[a]; exact g
theorem LBits.clr {l:List UInt8}(h:LBits l)(ps:List Int):LBits (clr l ps):=by
 induction ps generalizing l with
 | nil=>exact h
 | cons p ps a=>exact a (h.set (.inl rfl) _)
theorem LBits.put {l c:List UInt8}(h:LBits l){ps:List Int}(a:JD l ps=some c):LBits c∧c.length=l.length:=by
 induction ps generalizing l with
 | nil=>rw[JD] at a; cases a; exact ⟨h,rfl⟩
 | cons p ps m=>
  rw[JD] at a
  split at a
  ·cases a
  ·obtain ⟨d,g⟩:=m (h.set (.inr rfl) _) a
   exact ⟨d,by rw[g,ap]⟩
theorem Qp5 {m:ByteArray}{n:Int}(h:U5 m n):LBits m.toList:=fun c g=>by
 rw[bw] at g
 obtain ⟨i,o,e⟩:=List.getElem_of_mem g
 have a:i < m.size:=by simpa using o
 have d:=h.1 i a a
 have l:m[i]=c:=by rw[← e]; rfl
 rw[l] at d
 rcases d with h | h
 ·exact .inl (UInt8.toNat_inj.1 h)
 ·exact .inr (UInt8.toNat_inj.1 h)
theorem QqD {l:List UInt8}{n:Int}(h:LBits l)(d:(l.length:Int)=n):U5 ⟨l.toArray⟩ n:=by
 refine ⟨fun k g c=> ?_,by rw[← d]; rfl⟩
 have a:(⟨l.toArray⟩:ByteArray)[k]∈l:=by
  show l.toArray[k]∈l
  simp
 rcases h _ a with h | h
 ·exact .inl (by rw[h]; rfl)
 ·exact .inr (by rw[h]; rfl)
theorem Js (a:U5 mk n.1)(o:r=Yn n mk t)(h:r.2=true):U5 r.1 n.1:=by
 subst o
 unfold Yn at h ⊢
 cases d:n.2[t.toNat]? with
 | none=>rw[d] at h; cases h
 | some x=>
  rw[d] at h
  simp only at h ⊢
  unfold Jt at h ⊢
  cases c:JD (clr mk.toList x.1) x.2 with
  | none=>rw[c] at h; cases h
  | some l=>
   obtain ⟨g,m⟩:=((Qp5 a).clr x.1).put c
   refine QqD g ?_
   rw[m,Qug,XO]
   exact a.2
theorem Qes {p:ByteArray→Prop}(h:∀m∈Qs,p m)(d:p x):∀m∈Qs++[x],p m:=fun m c=>by
 rcases aP.1 c with a | a
 ·exact h m a
 ·rw[aS.1 a]; exact d
theorem QiI (h:Qs[k]? =some mk):(Qs++[x])[k]? =some mk:=by
 rw[bo (ai.1 h).1]; exact h
end
theorem Qga (Qs:List ByteArray)(m:ByteArray):FC Tryz.prog 378 [(false,[.dat Qo Qs]),(false,[dS m])] [] 0 (QY (lI (Ys Qs m))):=by
 refine Qv Tryz.func378 rfl rfl Tryz.ntmps378 fun A o w p B u q=> ?_
 refine w6 ?_
 refine alL 7 fun _=> ?_
 refine w4 ?_
 refine lpK Qs.length (fun k=>NoneTo (fun y=>decide (y=m)) Qs k) (fun k=>⟨[(1,lf (dS m)),(7,lf (.dat Qo Qs)),(8,lI (Qs.length:Int)),(9,lI (k:Int))],[]⟩) (NoneTo.zero) ?_ fun k _ a=> ?_
 exact wo []
 refine w4 ?_
 cases c:(decide ((k:Int) < (Qs.length:Int)))
 have d:=aa c
 refine w6 ?_
 refine Qd<|fqI o ?_
 first | exact (a.no (by omega)).symm
 have d:=ab c
 refine w6 ?_
 obtain ⟨z,l⟩:=gx Qs k
 refine w10 ?_
 cases g:(decide (z=m))
 have h:=aa g
 refine w6 ?_
 refine Qb ?_
 refine lK_ (a.step l ‹_›) ?_
 exact wo []
 have h:=ab g
 refine w5 ?_
 refine Qd<|fqI o ?_
 exact (a.at l ‹_›).symm
theorem Qc5 (s:QcY)(X:StgOk s):FC Tryz.prog 359 [(true,[dI s.1.1, .dat Xk s.1.2, .dat Ql s.2.1, .dat Yq s.2.2.1,dS s.2.2.2])] [] 0 (Is (PV.tup [(true,[.ref 0, .ref 1]),(false,[dI ((exV s).2.1)]),(false,[dI ((exV s).2.2.1)]),(false,[dB ((exV s).2.2.2)])]) [ar 0 9 .str (((exV s).1).1),ar 1 301 Zn (((exV s).1).2)]):=by
 have a8:=X.net.2.1
 refine Qv Tryz.func359 rfl rfl Tryz.ntmps359 fun O_ T b0 a3 X_ a5 a4=> ?_
 refine acG 0 0 fun _=> ?_
 refine w_ ?_
 refine xbx 0 ?_
 refine lc (xal 1 Qoq U4) ?_
 refine w4 ?_
 apply dW (i2 15 _ _ [⟨some 17,lR 2,[ar 2 9 .str ([s.2.2.2])]⟩,io 18 (ag [.ref 2, .val (.slice none 0 0)]),⟨some 19,lR 3,[(3,some (.mp false .str false .int ([])))]⟩,io 20 (lP 0 4),io 21 (lf (dS s.2.2.2)),⟨none,lf (.val undef),[(3,some (.mp false .str false .int (WC .str ([]) s.2.2.2 0)))]⟩,io 22 (lR 3),⟨some 6,lP 4 0,[bx 4 178 [.val (.slice none 0 0), .val (.slice none 0 0)]]⟩,⟨none,lf (.val undef),[bx 4 178 [.ref 2, .val (.slice none 0 0)]]⟩,io 7 _]) [0,0,0,0,15,31,31,15,15,511,496,0]
 refine z2 ?_
 refine zz (fun _ l=>ac (dBs 2 (e:= .str) HQ) rfl) ?_
 refine zz (fun _ l=>ac (Qi Ja ⟨_,_,rfl,(l.w rfl),rfl⟩ (ak.1 (by simp only[Q4,Vu,ba,bA]; rw[(l.en 2 rfl)]; rfl)) rfl rfl) rfl)<|zz (fun _ l=>ac (QbC (kt:=9) (et:=3) (kb:=false) (k:= .str) (vb:=false) (v:= .int) 3 rfl (l.fr 3 rfl) (nlr rfl)) rfl) ?_
 refine z2 ?_
 refine zz (fun _ l=>ac (Qj2 QsF QjQ (l.v rfl) (l.n 3 rfl) (l.w rfl) (p:=s.2.2.2) rfl (Evl.ev (Qy rfl)) (u:=0) rfl) rfl) ?_
 refine z_ ?_
 refine zz (fun _ l=>ac (Yl 4 Qoq U4 rfl rfl (l.fr 4 rfl) (nlr rfl)) rfl)<|zz (fun _ l=>ac (Q0 (l.v rfl) (l.en 4 rfl) (l.w rfl) (by simp only[Q4,Vu,ba,bA]; rw[(l.en 2 rfl)]; rfl) Qu9 rfl) rfl) ?_
 exact y1
 refine w5 ?_
 refine AC.wk (Qp 6 (p:=4) (off:=1) 301 Zn rfl rfl (Fresh.of rfl) (nlr rfl)) ?_
 refine QP (fun L M=>∃(k:Nat) (Qs:List ByteArray) (z:List (Int×Int×Int)) (idx:List (ByteArray×Int)),k≤300∧L=300 - k∧(∃b,ZV s=goK s.1 (301 - k) k (Qs,z,b))∧(∀m∈Qs,U5 m s.1.1)∧(Qs.length≤300)∧(z.length≤24*k)∧(IdxOf Qs idx)∧M=⟨[(1,lP 0 0),(2,lP 1 0),(6,lP 4 0),(7,lR 8),(8,lI (k:Int))],[bx 0 51 [dI s.1.1, .dat Xk s.1.2, .dat Ql s.2.1, .dat Yq s.2.2.1,dS s.2.2.2],bx 1 178 [.val (.slice none 0 0), .val (.slice none 0 0)],bx 4 178 [.ref 5, .ref 7],ar 5 9 .str Qs,ar 7 301 Zn z,(8,some (.mp false .str false .int idx))]⟩) ⟨0,[s.2.2.2],([]:(HM:Ty).Den),WC .str ([]) s.2.2.2 0,aG _,rfl,⟨_,rfl⟩,(by intro m hm; rw[aS.1 hm]; exact X.bits),(aD rfl),(aD rfl),IdxOf.one _,rfl⟩ ?_ ?_
 exact wp [(5,2),(7,6),(8,3)] ⟨rfl,rfl,rfl,(Qe (by first | rfl | simp)),(Qe (by first | rfl | simp)),(Qsh (by first | rfl | simp)),trivial⟩
 rintro L M ⟨k,Qs,z,idx,V,a7,H,Y,hl,hv,hI,rfl⟩
 refine w8 ?_
 cases I:(decide ((k:Int) < (Qs.length:Int)))
 have J:=aa I
 refine w11 ?_
 have e5:((-1):Int)=((exV s).2.1):=by
  (rw[X6 (H.elim fun b h=>⟨_,h.trans (WA (by omega))⟩)]; done)
 have e6:((-1):Int)=((exV s).2.2.1):=by
  (rw[X6 (H.elim fun b h=>⟨_,h.trans (WA (by omega))⟩)]; done)
 have e7:(true:Bool)=((exV s).2.2.2):=by
  (rw[X6 (H.elim fun b h=>⟨_,h.trans (WA (by omega))⟩)]; done)
 exact fi_ [(0,5),(1,7)] T ⟨(Qe (by (rw[X6 (H.elim fun b h=>⟨_,h.trans (WA (by omega))⟩)]; done))),(Qe (by (rw[X6 (H.elim fun b h=>⟨_,h.trans (WA (by omega))⟩)]; done))),trivial⟩ (h0:=by rw[← e5,← e6,← e7] <;> rfl)
 have J:=ab I
 refine w4 ?_
 obtain ⟨mk,C⟩:=gx Qs k
 have U:=Y _ (ah C)
 have K:=QsV X.net U
 have a6:=Qfz s.1 mk
 apply dW (i5 30 _ _ _ _ _ (io 35 (lf (.ept 5 1 k 0)) :: io 36 (lf (dS mk)) :: io 37 (lf (.dat Qz (Vo s.1 mk))) :: i2 38 _ _ [])) [0,0,3,3,15,3,3,0,0,511]
 refine z5 ?_
 refine zz (fun _ l=>ac (QI (e:= .str) (l.v rfl) (l.en 5 rfl) (l.v rfl) VJ VS rfl (by omega) (by first | omega | (simp only[ap]; omega))) rfl)<|zz (fun _ l=>ac (Q5 (e:= .str) (l.v rfl) (l.n 5 rfl) C rfl VS rfl rfl) rfl) ?_
 refine zz (fun _ l=>ac (dK (Qd6 s.1 mk K (by omega)).frozen Qmv) rfl) ?_
 exact y2
 refine w_ ?_
 refine QP (fun L M=>∃(i:Nat) (c:List ByteArray) (d:List (Int×Int×Int)) (o:List (ByteArray×Int)),i≤(Vo s.1 mk).length∧L=(Vo s.1 mk).length - i∧(∃b,ZV s=QaA s.1 (300 - k) k (goT s.1 k mk ((Vo s.1 mk).drop i) (c,d,b)))∧(∀m∈c,U5 m s.1.1)∧(c.length≤300)∧(c[k]? =some mk)∧(d.length≤24*k+i)∧(IdxOf c o)∧M=⟨[(1,lP 0 0),(2,lP 1 0),(6,lP 4 0),(7,lR 11),(8,lI (k:Int)),(23,lI (k:Int)),(24,lP 4 0),(26,lI (Qs.length:Int)),(27,lB true),(30,lP 0 0),(31,ag [dI s.1.1, .dat Xk s.1.2]),(32,lP 4 0),(34,lI (k:Int)),(36,lf (dS mk)),(37,lf (.dat Qz (Vo s.1 mk))),(38,lI ((Vo s.1 mk).length:Int)),(39,lI (i:Int))],[bx 0 51 [dI s.1.1, .dat Xk s.1.2, .dat Ql s.2.1, .dat Yq s.2.2.1,dS s.2.2.2],bx 1 178 [.val (.slice none 0 0), .val (.slice none 0 0)],bx 4 178 [.ref 9, .ref 10],ar 9 9 .str c,ar 10 301 Zn d,(11,some (.mp false .str false .int o))]⟩) ⟨0,Qs,z,idx,aG _,rfl,H.elim fun b h=>⟨_,h.trans (Qsu C (by omega))⟩,Y,hl,C,(by omega),hI,rfl⟩ ?_ ?_
 exact wo [(9,5),(10,7),(11,8)]
 rintro L M ⟨i,c,d,o,a1,a2,q,B,W,A,a9,y,rfl⟩
 have V:=(ai.1 A).1
 refine w4 ?_
 cases D:(decide ((i:Int) < ((Vo s.1 mk).length:Int)))
 have F:=aa D
 refine w7 ?_
 refine Qb<|QW ⟨k+1,c,d,o,by omega,rfl,q.elim fun b h=>⟨_,h.trans (Qo8 (by omega) (by omega))⟩,B,W,(by omega),y,rfl⟩ (by omega) ?_
 exact wo [(5,9),(7,10),(8,11)]
 have F:=ab D
 refine w5 ?_
 obtain ⟨g,a⟩:=gx (Vo s.1 mk) i
 refine w2 ?_
 refine alI 42 fun _=> ?_
 refine w2 ?_
 apply dW (i5 44 _ _ _ _ _ (io 49 (lf (.ept 9 1 k 0)) :: io 50 (lf (dS mk)) :: io 51 _ :: io 52 (PV.tup [(false,[dS ((YD s.1 mk g).1)]),(false,[dB ((YD s.1 mk g).2)])]) :: io 43 _ :: i2 53 _ _ (i2 11 _ _ []))) [0,0,3,3,15,3,3,127,0,0,0,1024,2048,0]
 refine z5 ?_
 refine zz (fun _ l=>ac (QI (e:= .str) (l.v rfl) (l.en 9 rfl) (l.v rfl) VJ VS rfl (by omega) (by first | omega | (simp only[ap]; omega))) rfl)<|zz (fun _ l=>ac (Q5 (e:= .str) (l.v rfl) (l.n 9 rfl) A rfl VS rfl rfl) rfl) ?_
 refine z_ ?_
 refine zz (fun _ l=>ac (dK (Qi7 s.1 mk g K (by omega)) Qna) rfl) ?_
 exact y5
 refine w5 ?_
 cases Z:((YD s.1 mk g).2)
 refine w11 ?_
 have N:((k:Int):Int)=((exV s).2.1):=by
  (rw[X6 (q.elim fun b h=>⟨_,h.trans (WB a (ZM a) ‹_›)⟩)]; done)
 have O:(g:Int)=((exV s).2.2.1):=by
  (rw[X6 (q.elim fun b h=>⟨_,h.trans (WB a (ZM a) ‹_›)⟩)]; done)
 have P:(false:Bool)=((exV s).2.2.2):=by
  (rw[X6 (q.elim fun b h=>⟨_,h.trans (WB a (ZM a) ‹_›)⟩)]; done)
 exact fi_ [(0,9),(1,10)] T ⟨(Qe (by (rw[X6 (q.elim fun b h=>⟨_,h.trans (WB a (ZM a) ‹_›)⟩)]; done))),(Qe (by (rw[X6 (q.elim fun b h=>⟨_,h.trans (WB a (ZM a) ‹_›)⟩)]; done))),trivial⟩ (h0:=by rw[N,← O,← P] <;> rfl)
 refine w5 ?_
 refine lc (Qaz QsF QjQ Qvw (Qa rfl) rfl (Qk rfl) (p:=(YD s.1 mk g).1) rfl rfl rfl) ?_
 refine w11 ?_
 cases a0:((Yr .str o ((YD s.1 mk g).1)).isSome)
 refine w8 ?_
 cases E:(decide ((c.length:Int)=300))
 have G:=aa E
 refine w12 ?_
 refine lc (J8 QsF QjQ (Qa rfl) rfl (Qk rfl) (p:=(YD s.1 mk g).1) rfl (Qk rfl) (u:=(c.length:Int)) rfl) ?_
 refine w5 ?_
 refine lc (dBs 12 (e:= .str) HQ) ?_
 refine lc (dA 13 QhM) ?_
 refine w9 ?_
 refine lc (Qi H2 ⟨_,_,rfl,(Qk rfl),⟨_,_,rfl,(Qk rfl),⟨_,_,rfl,(Qk rfl),rfl⟩⟩⟩ (ak.1 rfl) rfl rfl) ?_
 refine lc (dBs 14 (e:=Zn) Vj (hab:=by exact ⟨_,_,_,_,rfl,⟨[dI (k:Int)],[dI g,dI (c.length:Int)],_,_,_,_,rfl,rfl,⟨rfl,rfl⟩,⟨[dI g],[dI (c.length:Int)],_,_,_,_,rfl,rfl,⟨rfl,rfl⟩,⟨rfl,rfl⟩,rfl⟩,rfl⟩,⟨rfl,rfl⟩,rfl⟩)) ?_
 refine lc (dA 15 QbT) ?_
 refine w2 ?_
 refine Qb ?_
 refine w4 ?_
 refine Qb<|QW ⟨i+1,(c++([(YD s.1 mk g).1])),(d++([((k:Int),g,(c.length:Int))])),(WC .str o ((YD s.1 mk g).1) (c.length:Int)),by omega,rfl,by first | exact q.elim fun b h=>⟨_,h.trans (QeG a (ZM a) ‹_› (y.old ‹_›))⟩ | exact q.elim fun b h=>⟨_,h.trans (QeF a (ZM a) ‹_› (y.new ‹_›) ‹_›)⟩,by first | exact B | exact Qes B (Js (B _ (ah A)) (ZM a) ‹_›),(by (simp only[aj,au,aH]; omega)),by first | exact A | exact QiI A,(by simp only[aj,au,aH]; omega),by first | exact y | exact y.set ‹_›,rfl⟩ (by omega) ?_
 exact wp [(9,13),(10,15)] ⟨rfl,rfl,rfl,(Qe (by first | rfl | simp)),(Qe (by first | rfl | simp)),(Qsh (by first | rfl | simp)),trivial⟩
 have G:=ab E
 refine w9 ?_
 have Q:((-1):Int)=((exV s).2.1):=by
  (rw[X6 (q.elim fun b h=>⟨_,h.trans (Xt a (ZM a) ‹_› (y.new ‹_›) ‹_›)⟩)]; done)
 have R:((-1):Int)=((exV s).2.2.1):=by
  (rw[X6 (q.elim fun b h=>⟨_,h.trans (Xt a (ZM a) ‹_› (y.new ‹_›) ‹_›)⟩)]; done)
 have S:(false:Bool)=((exV s).2.2.2):=by
  (rw[X6 (q.elim fun b h=>⟨_,h.trans (Xt a (ZM a) ‹_› (y.new ‹_›) ‹_›)⟩)]; done)
 exact fi_ [(0,9),(1,10)] T ⟨(Qe (by (rw[X6 (q.elim fun b h=>⟨_,h.trans (Xt a (ZM a) ‹_› (y.new ‹_›) ‹_›)⟩)]; done))),(Qe (by (rw[X6 (q.elim fun b h=>⟨_,h.trans (Xt a (ZM a) ‹_› (y.new ‹_›) ‹_›)⟩)]; done))),trivial⟩ (h0:=by rw[← Q,← R,← S] <;> rfl)
 refine w8 ?_
 refine lc (Qi H2 ⟨_,_,rfl,(Qk rfl),⟨_,_,rfl,(Qk rfl),⟨_,_,rfl,(Qk rfl),rfl⟩⟩⟩ (ak.1 rfl) rfl rfl) ?_
 refine lc (dBs 16 (e:=Zn) Vj (hab:=by exact ⟨_,_,_,_,rfl,⟨[dI (k:Int)],[dI g,dI ((Yr .str o ((YD s.1 mk g).1)).getD (Ty.zero .int))],_,_,_,_,rfl,rfl,⟨rfl,rfl⟩,⟨[dI g],[dI ((Yr .str o ((YD s.1 mk g).1)).getD (Ty.zero .int))],_,_,_,_,rfl,rfl,⟨rfl,rfl⟩,⟨rfl,rfl⟩,rfl⟩,rfl⟩,⟨rfl,rfl⟩,rfl⟩)) ?_
 refine lc (dA 17 QbT) ?_
 refine w2 ?_
 refine Qb ?_
 refine w4 ?_
 refine Qb<|QW ⟨i+1,c,(d++([((k:Int),g,(Yr .str o ((YD s.1 mk g).1)).getD (Ty.zero .int))])),o,by omega,rfl,by first | exact q.elim fun b h=>⟨_,h.trans (QeG a (ZM a) ‹_› (y.old ‹_›))⟩ | exact q.elim fun b h=>⟨_,h.trans (QeF a (ZM a) ‹_› (y.new ‹_›) ‹_›)⟩,by first | exact B | exact Qes B (Js (B _ (ah A)) (ZM a) ‹_›),(by omega),by first | exact A | exact QiI A,(by simp only[aj,au,aH]; omega),by first | exact y | exact y.set ‹_›,rfl⟩ (by omega) ?_
 exact wp [(10,17)] ⟨rfl,rfl,rfl,rfl,(Qe (by first | rfl | simp)),rfl,trivial⟩
theorem Qek (s:QcY)(W:StgOk s):FC Tryz.prog 254 [(true,[dI s.1.1, .dat Xk s.1.2, .dat Ql s.2.1, .dat Yq s.2.2.1,dS s.2.2.2])] [] 0 (Is (ag [.ref 0, .ref 1, .ref 2,dI ((l4V s).2.2.1),dI ((l4V s).2.2.2.1),dB ((l4V s).2.2.2.2)]) [ar 0 9 .str (((l4V s).1).1),ar 1 301 Zn (((l4V s).1).2),ar 2 301 Zn ((l4V s).2.1)]):=by
 have a6:=W.net.2.1
 refine Qv Tryz.func254 rfl rfl Tryz.ntmps254 fun O_ S a9 a1 X_ a3 a2=> ?_
 refine acG 0 0 fun _=> ?_
 refine w_ ?_
 refine xbx 0 ?_
 refine lc (xal 1 QwF QeT) ?_
 refine w4 ?_
 refine lc (dBs 2 (e:= .str) HQ) ?_
 refine lc (Qi Ja ⟨_,_,rfl,(Qk rfl),rfl⟩ (ak.1 rfl) rfl rfl)<|lc (Qi H2 rfl (ak.1 rfl) rfl rfl) ?_
 refine lc (dBs 3 (e:=Zn) Vj (hab:=by exact ⟨_,_,_,_,rfl,⟨[dI 0],[dI 0,dI 0],_,_,_,_,rfl,rfl,⟨rfl,rfl⟩,⟨[dI 0],[dI 0],_,_,_,_,rfl,rfl,⟨rfl,rfl⟩,⟨rfl,rfl⟩,rfl⟩,rfl⟩,⟨rfl,rfl⟩,rfl⟩)) ?_
 refine lc (Qi Qua ⟨_,_,rfl,(Qk rfl),⟨_,_,rfl,(Qk rfl),⟨_,_,rfl,(Evl.ev (Qy rfl)),rfl⟩⟩⟩ (ak.1 rfl) rfl rfl)<|lc (xal 4 QwF QeT) ?_
 refine w7 ?_
 refine AC.wk (Qp 6 (p:=4) (off:=1) 301 Zn rfl rfl (Fresh.of rfl) (nlr rfl)) ?_
 refine QP (fun K L=>∃(k:Nat) (Qs:List ByteArray) (l:List (Int×Int×Int)) (y:List (Int×Int×Int)),k≤300∧K=300 - k∧(ZV s=goK s.1 (301 - k) k (Qs,l,y))∧(∀m∈Qs,U5 m s.1.1)∧(Qs.length≤300)∧(l.length≤24*k)∧(y.length≤24*k+1)∧L=⟨[(1,lP 0 0),(2,lP 1 0),(3,lP 4 0),(4,lI (k:Int))],[bx 0 51 [dI s.1.1, .dat Xk s.1.2, .dat Ql s.2.1, .dat Yq s.2.2.1,dS s.2.2.2],bx 1 281 [.val (.slice none 0 0), .val (.slice none 0 0), .val (.slice none 0 0),dI 0,dI 0,dB false],bx 4 281 [.ref 5, .ref 7, .ref 8,dI 0,dI (-1),dB false],ar 5 9 .str Qs,ar 7 301 Zn l,ar 8 301 Zn y]⟩) ⟨0,[s.2.2.2],([]:(HM:Ty).Den),[(0,0,0)],aG _,rfl,rfl,(by intro m hm; rw[aS.1 hm]; exact W.bits),(aD rfl),(aD rfl),(aD rfl),rfl⟩ ?_ ?_
 exact wp [(5,2),(7,6),(8,3)] ⟨rfl,rfl,rfl,(Qe (by first | rfl | simp)),(Qe (by first | rfl | simp)),(Qe (by first | rfl | simp)),trivial⟩
 rintro K L ⟨k,Qs,l,y,U,a5,D,X,hl,hv,hy,rfl⟩
 refine w9 ?_
 cases H:(decide ((k:Int) < (Qs.length:Int)))
 have I:=aa H
 refine w8 ?_
 have e5:(0:Int)=((l4V s).2.2.1):=by
  (rw[Qdq (D.trans (WA (by omega)))]; done)
 have e6:((-1):Int)=((l4V s).2.2.2.1):=by
  (rw[Qdq (D.trans (WA (by omega)))]; done)
 have e7:(false:Bool)=((l4V s).2.2.2.2):=by
  (rw[Qdq (D.trans (WA (by omega)))]; done)
 exact fi_ [(0,5),(1,7),(2,8)] S ⟨(Qe (by (rw[Qdq (D.trans (WA (by omega)))]; done))),(Qe (by (rw[Qdq (D.trans (WA (by omega)))]; done))),(Qe (by (rw[Qdq (D.trans (WA (by omega)))]; done))),trivial⟩ (h0:=by rw[← e5,← e6,← e7] <;> rfl)
 have I:=ab H
 refine w4 ?_
 obtain ⟨mk,z⟩:=gx Qs k
 have T:=X _ (ah z)
 have J:=QsV W.net T
 have a4:=Qfz s.1 mk
 apply dW (i6 25 _ _ _ _ _ _ (io 31 (lf (.ept 5 1 k 0)) :: io 32 (lf (dS mk)) :: io 33 (lf (.dat Qz (Vo s.1 mk))) :: i2 34 _ _ [])) [0,0,3,3,3,31,3,3,0,0,1023]
 refine z6 ?_
 refine zz (fun _ w=>ac (QI (e:= .str) (w.v rfl) (w.en 5 rfl) (w.v rfl) VJ VS rfl (by omega) (by first | omega | (simp only[ap]; omega))) rfl)<|zz (fun _ w=>ac (Q5 (e:= .str) (w.v rfl) (w.n 5 rfl) z rfl VS rfl rfl) rfl) ?_
 refine zz (fun _ w=>ac (dK (Qb8 s.1 mk J (by omega)).frozen Qmy) rfl) ?_
 exact y2
 refine w_ ?_
 refine QP (fun K L=>∃(i:Nat) (a:List ByteArray) (g:List (Int×Int×Int)) (q:List (Int×Int×Int)),i≤(Vo s.1 mk).length∧K=(Vo s.1 mk).length - i∧(ZV s=QaA s.1 (300 - k) k (goT s.1 k mk ((Vo s.1 mk).drop i) (a,g,q)))∧(∀m∈a,U5 m s.1.1)∧(a.length≤300)∧(a[k]? =some mk)∧(g.length≤24*k+i)∧(q.length≤24*k+1+i)∧L=⟨[(1,lP 0 0),(2,lP 1 0),(3,lP 4 0),(4,lI (k:Int)),(17,lI (k:Int)),(18,lP 4 0),(19,lP 4 0),(21,lI (Qs.length:Int)),(22,lB true),(25,lP 0 0),(26,ag [dI s.1.1, .dat Xk s.1.2]),(27,lP 4 0),(28,lP 4 0),(30,lI (k:Int)),(32,lf (dS mk)),(33,lf (.dat Qz (Vo s.1 mk))),(34,lI ((Vo s.1 mk).length:Int)),(35,lI (i:Int))],[bx 0 51 [dI s.1.1, .dat Xk s.1.2, .dat Ql s.2.1, .dat Yq s.2.2.1,dS s.2.2.2],bx 1 281 [.val (.slice none 0 0), .val (.slice none 0 0), .val (.slice none 0 0),dI 0,dI 0,dB false],bx 4 281 [.ref 9, .ref 10, .ref 11,dI 0,dI (-1),dB false],ar 9 9 .str a,ar 10 301 Zn g,ar 11 301 Zn q]⟩) ⟨0,Qs,l,y,aG _,rfl,D.trans (Qsu z (by omega)),X,hl,z,(by omega),(by omega),rfl⟩ ?_ ?_
 exact wo [(9,5),(10,7),(11,8)]
 rintro K L ⟨i,a,g,q,Z,a0,h,u,V,o,a7,a8,rfl⟩
 have U:=(ai.1 o).1
 refine w4 ?_
 cases A:(decide ((i:Int) < ((Vo s.1 mk).length:Int)))
 have E:=aa A
 refine w7 ?_
 refine Qb<|QW ⟨k+1,a,g,q,by omega,rfl,h.trans (Qo8 (by omega) (by omega)),u,V,(by omega),(by omega),rfl⟩ (by omega) ?_
 exact wo [(5,9),(7,10),(8,11)]
 have E:=ab A
 refine w5 ?_
 obtain ⟨d,c⟩:=gx (Vo s.1 mk) i
 refine w2 ?_
 refine alI 38 fun _=> ?_
 refine w2 ?_
 apply dW (i6 40 _ _ _ _ _ _ (io 46 (lf (.ept 9 1 k 0)) :: io 47 (lf (dS mk)) :: io 48 _ :: io 49 (PV.tup [(false,[dS ((Yn s.1 mk d).1)]),(false,[dB ((Yn s.1 mk d).2)])]) :: io 39 _ :: i2 50 _ _ (i2 7 _ _ []))) [0,0,3,3,3,31,3,3,255,0,0,0,2048,4096,0]
 refine z6 ?_
 refine zz (fun _ w=>ac (QI (e:= .str) (w.v rfl) (w.en 9 rfl) (w.v rfl) VJ VS rfl (by omega) (by first | omega | (simp only[ap]; omega))) rfl)<|zz (fun _ w=>ac (Q5 (e:= .str) (w.v rfl) (w.n 9 rfl) o rfl VS rfl rfl) rfl) ?_
 refine z_ ?_
 refine zz (fun _ w=>ac (dK (Qf6 s.1 mk d J (Vp c)) QmS) rfl) ?_
 exact y5
 refine w5 ?_
 cases Y:((Yn s.1 mk d).2)
 refine w16 ?_
 have M:((k:Int):Int)=((l4V s).2.2.1):=by
  (rw[Qab (h.trans (WB c rfl ‹_›)) (Vp c).1]; done)
 have N:(d:Int)=((l4V s).2.2.2.1):=by
  (rw[Qab (h.trans (WB c rfl ‹_›)) (Vp c).1]; done)
 have O:(false:Bool)=((l4V s).2.2.2.2):=by
  (rw[Qab (h.trans (WB c rfl ‹_›)) (Vp c).1]; done)
 exact fi_ [(0,9),(1,10),(2,11)] S ⟨(Qe (by (rw[Qab (h.trans (WB c rfl ‹_›)) (Vp c).1]; done))),(Qe (by (rw[Qab (h.trans (WB c rfl ‹_›)) (Vp c).1]; done))),(Qe (by (rw[Qab (h.trans (WB c rfl ‹_›)) (Vp c).1]; done))),trivial⟩ (h0:=by rw[M,← N,← O] <;> rfl)
 refine w7 ?_
 refine lc (dB_ (Qga a ((Yn s.1 mk d).1)) QmT) ?_
 refine w7 ?_
 cases B:(decide ((Ys a ((Yn s.1 mk d).1)) < 0))
 have F:=aa B
 refine w9 ?_
 refine lc (Qi H2 ⟨_,_,rfl,(Qk rfl),⟨_,_,rfl,(Qk rfl),⟨_,_,rfl,(Qk rfl),rfl⟩⟩⟩ (ak.1 rfl) rfl rfl) ?_
 refine lc (dBs 12 (e:=Zn) Vj (hab:=by exact ⟨_,_,_,_,rfl,⟨[dI (k:Int)],[dI d,dI (Ys a ((Yn s.1 mk d).1))],_,_,_,_,rfl,rfl,⟨rfl,rfl⟩,⟨[dI d],[dI (Ys a ((Yn s.1 mk d).1))],_,_,_,_,rfl,rfl,⟨rfl,rfl⟩,⟨rfl,rfl⟩,rfl⟩,rfl⟩,⟨rfl,rfl⟩,rfl⟩)) ?_
 refine lc (dA 13 QbT) ?_
 refine w3 ?_
 refine Qb ?_
 refine w4 ?_
 refine Qb<|QW ⟨i+1,a,(g++([((k:Int),d,Ys a ((Yn s.1 mk d).1))])),q,by omega,rfl,by first | exact h.trans (QeG c rfl ‹_› ⟨by omega,rfl⟩) | exact h.trans (QeF c rfl ‹_› (by omega) ‹_›),by first | exact u | exact Qes u (Js (u _ (ah o)) rfl ‹_›),(by omega),by first | exact o | exact QiI o,(by simp only[aj,au,aH]; omega),(by omega),rfl⟩ (by omega) ?_
 exact wp [(10,13)] ⟨rfl,rfl,rfl,rfl,(Qe (by first | rfl | simp)),rfl,trivial⟩
 have F:=ab B
 refine w9 ?_
 cases C:(decide ((a.length:Int)=300))
 have G:=aa C
 refine w14 ?_
 refine lc (dBs 14 (e:= .str) HQ) ?_
 refine lc (dA 15 QhM) ?_
 refine w10 ?_
 refine lc (Qi H2 ⟨_,_,rfl,(Qk rfl),⟨_,_,rfl,(Qk rfl),⟨_,_,rfl,(Qk rfl),rfl⟩⟩⟩ (ak.1 rfl) rfl rfl) ?_
 refine lc (dBs 16 (e:=Zn) Vj (hab:=by exact ⟨_,_,_,_,rfl,⟨[dI (k:Int)],[dI d,dI (a.length:Int)],_,_,_,_,rfl,rfl,⟨rfl,rfl⟩,⟨[dI d],[dI (a.length:Int)],_,_,_,_,rfl,rfl,⟨rfl,rfl⟩,⟨rfl,rfl⟩,rfl⟩,rfl⟩,⟨rfl,rfl⟩,rfl⟩)) ?_
 refine lc (dA 17 QbT) ?_
 refine w10 ?_
 refine lc (Qi H2 ⟨_,_,rfl,(Qk rfl),⟨_,_,rfl,(Qk rfl),⟨_,_,rfl,(Qk rfl),rfl⟩⟩⟩ (ak.1 rfl) rfl rfl) ?_
 refine lc (dBs 18 (e:=Zn) Vj (hab:=by exact ⟨_,_,_,_,rfl,⟨[dI (k:Int)],[dI d,dI (a.length:Int)],_,_,_,_,rfl,rfl,⟨rfl,rfl⟩,⟨[dI d],[dI (a.length:Int)],_,_,_,_,rfl,rfl,⟨rfl,rfl⟩,⟨rfl,rfl⟩,rfl⟩,rfl⟩,⟨rfl,rfl⟩,rfl⟩)) ?_
 refine lc (dA 19 QbT) ?_
 refine w3 ?_
 refine Qb ?_
 refine w4 ?_
 refine Qb<|QW ⟨i+1,(a++([(Yn s.1 mk d).1])),(g++([((k:Int),d,(a.length:Int))])),(q++([((k:Int),d,(a.length:Int))])),by omega,rfl,by first | exact h.trans (QeG c rfl ‹_› ⟨by omega,rfl⟩) | exact h.trans (QeF c rfl ‹_› (by omega) ‹_›),by first | exact u | exact Qes u (Js (u _ (ah o)) rfl ‹_›),(by (simp only[aj,au,aH]; omega)),by first | exact o | exact QiI o,(by simp only[aj,au,aH]; omega),(by (simp only[aj,au,aH]; omega)),rfl⟩ (by omega) ?_
 exact wp [(9,15),(10,19),(11,17)] ⟨rfl,rfl,rfl,(Qe (by first | rfl | simp)),(Qe (by first | rfl | simp)),(Qe (by first | rfl | simp)),trivial⟩
 have G:=ab C
 refine w10 ?_
 have P:(0:Int)=((l4V s).2.2.1):=by
  (rw[KQ (h.trans (Xt c rfl ‹_› (by omega) ‹_›))]; done)
 have Q:((-1):Int)=((l4V s).2.2.2.1):=by
  (rw[KQ (h.trans (Xt c rfl ‹_› (by omega) ‹_›))]; done)
 have R:(true:Bool)=((l4V s).2.2.2.2):=by
  (rw[KQ (h.trans (Xt c rfl ‹_› (by omega) ‹_›))]; done)
 exact fi_ [(0,9),(1,10),(2,11)] S ⟨(Qe (by (rw[KQ (h.trans (Xt c rfl ‹_› (by omega) ‹_›))]; done))),(Qe (by (rw[KQ (h.trans (Xt c rfl ‹_› (by omega) ‹_›))]; done))),(Qe (by (rw[KQ (h.trans (Xt c rfl ‹_› (by omega) ‹_›))]; done))),trivial⟩ (h0:=by rw[← P,← Q,← R] <;> rfl)
end Go.Proofs.YtndabgcpnmeeoaaGreat
