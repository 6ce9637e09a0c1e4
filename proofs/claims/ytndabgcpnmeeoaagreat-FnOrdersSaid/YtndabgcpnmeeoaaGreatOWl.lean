/- Walks over abstract states: reachability. -/
import Derived.Test.YtndabgcpnmeeoaaGreatOWk
set_option linter.unusedSimpArgs false
set_option linter.unusedVariables false
set_option linter.unusedSectionVars false
namespace Go.Proofs.YtndabgcpnmeeoaaGreat
open Go.RowKit
set_option maxRecDepth 100000
set_option maxHeartbeats 4000000
abbrev RS:=List ByteArray×List (Int×Int×Int)×List (Int×Int×Int)
abbrev Qjc:=Int×Int×Bool
def ZM (l:List ByteArray)(x:ByteArray):Int:=ZO (fun y=>decide (y=x)) l
def goT (n:Yh)(k:Nat)(mk:ByteArray):List Int→RS→RS×Qjc
 | [],st=>(st,(-1, -1,true))
 | t :: ts,st=>
  if (Zw n mk t).2=false then (st,(k,t,false))
  else if 0≤ZM st.1 (Zw n mk t).1 then goT n k mk ts (st.1,st.2.1++[((k:Int),t,ZM st.1 (Zw n mk t).1)],st.2.2)
  else if st.1.length=300 then (st,(-1, -1,false))
  else goT n k mk ts (st.1++[(Zw n mk t).1],st.2.1++[((k:Int),t,(st.1.length:Int))],st.2.2++[((k:Int),t,(st.1.length:Int))])
def goK (n:Yh):Nat→Nat→RS→RS×Qjc
 | 0,_,st=>(st,(-1, -1,true))
 | f+1,k,st=>match st.1[k]? with
  | none=>(st,(-1, -1,true))
  | some mk=>if (goT n k mk (QO n mk) st).2.2.2=true then goK n f (k+1) (goT n k mk (QO n mk) st).1 else goT n k mk (QO n mk) st
def H9 (n:Yh)(f k:Nat)(r:RS×Qjc):RS×Qjc:=if r.2.2.2=true then goK n f (k+1) r.1 else r
def ZS (s:Qy):RS×Qjc:=goK s.1 301 0 ([s.2.2.2],[],[((0:Int),(0:Int),(0:Int))])
def exV (s:Qy):(List ByteArray×List (Int×Int×Int))×Int×Int×Bool:=(((ZS s).1.1,(ZS s).1.2.1),(ZS s).2)
def l4V (s:Qy):(List ByteArray×List (Int×Int×Int))×List (Int×Int×Int)×Int×Int×Bool:=
 (((ZS s).1.1,(ZS s).1.2.1),(ZS s).1.2.2,(if 0≤(ZS s).2.2.1 then (ZS s).2.1 else 0),(ZS s).2.2.1,(!(ZS s).2.2.2&&decide ((ZS s).2.2.1 < 0)))
def QmZ:List ByteArray×List (Int×Int×Int):=([],[])
section
variable [∀s,Decidable (StgOk s)]
def Qb (s:Qy):(List ByteArray×List (Int×Int×Int))×Bool:=if StgOk s∧(ZS s).2.2.2=true then (((ZS s).1.1,(ZS s).1.2.1),true) else (QmZ,false)
end
theorem Qpo (l:List ByteArray)(x y:ByteArray):ZM (l++[y]) x=if 0≤ZM l x then ZM l x else if y=x then (l.length:Int) else -1:=by
 unfold ZM ZO
 rw[List.findIdx?_append]
 cases h:l.findIdx? (fun z=>decide (z=x)) with
 | some i=>simp
 | none=>
  by_cases e:y=x
  ·simp[e]
  ·simp[e]
def IdxOf (Qv:List ByteArray)(idx:List (ByteArray×Int)):Prop:=∀x,YD .str idx x=if 0≤ZM Qv x then some (ZM Qv x) else none
section
variable {Qv:List ByteArray}{idx:List (ByteArray×Int)}{x:ByteArray}{v b:List (Int×Int×Int)}{n:Yh}{k f i:Nat}{mk:ByteArray}{t:Int}{ts:List Int}{r:ByteArray×Bool}{j:Int}{s:Qy}{e:Qjc}
theorem IdxOf.old (h:IdxOf Qv idx)(c:(YD .str idx x).isSome=true):0≤ZM Qv x∧(YD .str idx x).getD (Ty.zero .int)=ZM Qv x:=by
 rw[h x] at c ⊢
 by_cases a:0≤ZM Qv x
 ·rw[if_pos a]; exact ⟨a,rfl⟩
 ·rw[if_neg a] at c; cases c
theorem IdxOf.new (h:IdxOf Qv idx)(a:(YD .str idx x).isSome=false):¬0≤ZM Qv x:=by
 rw[h x] at a
 intro c
 rw[if_pos c] at a; cases a
theorem IdxOf.set (h:IdxOf Qv idx)(d:(YD .str idx x).isSome=false):IdxOf (Qv++[x]) (Yl .str idx x (Qv.length:Int)):=fun y=>by
 have c:=h.new d
 rw[V2,Qpo,h y]
 by_cases e:x=y
 ·subst e
  rw[if_pos ((Ty.beq_iff .str x x).2 rfl),if_neg c,if_pos rfl,if_pos (cQ _)]
 ·have:Ty.beq .str x y=false:=co.2 fun h=>e ((Ty.beq_iff .str x y).1 h)
  rw[if_neg (show¬Ty.beq .str x y=true by rw[this]; decide),if_neg e]
  by_cases a:0≤ZM Qv y
  ·rw[if_pos a,if_pos a,if_pos a]
  ·rw[if_neg a,if_neg a,if_neg (by decide)]
theorem IdxOf.one (x:ByteArray):IdxOf [x] (Yl .str ([]:List (ByteArray×Int)) x 0):=fun y=>by
 rw[V2]
 by_cases e:x=y
 ·subst e
  rw[if_pos ((Ty.beq_iff .str x x).2 rfl)]
  simp[ZM,ZO]
 ·have:Ty.beq .str x y=false:=co.2 fun h=>e ((Ty.beq_iff .str x y).1 h)
  rw[if_neg (show¬Ty.beq .str x y=true by rw[this]; decide)]
  simp[ZM,ZO,e,YD]
theorem WA (c:ts[i]? =some t)(a:r=Zw n mk t)(hb:r.2=false):H9 n f k (goT n k mk (ts.drop i) (Qv,v,b))=((Qv,v,b),((k:Int),t,false)):=by
 subst a
 rw[ZA c,goT,if_pos hb]
 rfl
theorem QdN (d:ts[i]? =some t)(c:r=Zw n mk t)(hb:r.2=true)(a:0≤ZM Qv r.1∧j=ZM Qv r.1):H9 n f k (goT n k mk (ts.drop i) (Qv,v,b))=H9 n f k (goT n k mk (ts.drop (i+1)) (Qv,v++[((k:Int),t,j)],b)):=by
 subst c
 rw[ZA d,goT,if_neg (by rw[hb]; decide),if_pos a.1,a.2]
theorem Xn (d:ts[i]? =some t)(c:r=Zw n mk t)(hb:r.2=true)(a:¬0≤ZM Qv r.1)(g:(Qv.length:Int)=300):H9 n f k (goT n k mk (ts.drop i) (Qv,v,b))=((Qv,v,b),(-1, -1,false)):=by
 subst c
 rw[ZA d,goT,if_neg (by rw[hb]; decide),if_neg a,if_pos (show Qv.length=300 by omega)]
 rfl
theorem QdM (d:ts[i]? =some t)(c:r=Zw n mk t)(hb:r.2=true)(a:¬0≤ZM Qv r.1)(g:¬(Qv.length:Int)=300):H9 n f k (goT n k mk (ts.drop i) (Qv,v,b))=H9 n f k (goT n k mk (ts.drop (i+1)) (Qv++[r.1],v++[((k:Int),t,(Qv.length:Int))],b++[((k:Int),t,(Qv.length:Int))])):=by
 subst c
 rw[ZA d,goT,if_neg (by rw[hb]; decide),if_neg a,if_neg (show¬Qv.length=300 by omega)]
theorem QnG (hi:ts.length≤i)(a:k < 300):H9 n (300 - k) k (goT n k mk (ts.drop i) (Qv,v,b))=goK n (301 - (k+1)) (k+1) (Qv,v,b):=by
 rw[bz hi,goT,show 301 - (k+1)=300 - k by omega]
 rfl
theorem QrM (a:Qv[k]? =some mk)(c:k < 300):goK n (301 - k) k (Qv,v,b)=H9 n (300 - k) k (goT n k mk (QO n mk) (Qv,v,b)):=by
 rw[show 301 - k=(300 - k)+1 by omega,goK]
 simp only[a]
 rfl
theorem Wz (a:Qv.length≤k):goK n f k (Qv,v,b)=((Qv,v,b),(-1, -1,true)):=by
 cases f with
 | zero=>rfl
 | succ f=>
  rw[goK]
  simp only[bp a]
theorem X3 (h:∃b,ZS s=((Qv,v,b),e)):exV s=((Qv,v),e):=by
 obtain ⟨b,h⟩:=h
 unfold exV; rw[h]
theorem Qmz (h:ZS s=((Qv,v,b),e)):l4V s=((Qv,v),b,(if 0≤e.2.1 then e.1 else 0),e.2.1,(!e.2.2&&decide (e.2.1 < 0))):=by
 unfold l4V; rw[h]
theorem HD (h:ZS s=((Qv,v,b),((k:Int),t,false)))(h0:0≤t):l4V s=((Qv,v),b,(k:Int),t,false):=by
 rw[Qmz h]
 simp[h0]
theorem Kw (h:ZS s=((Qv,v,b),(-1, -1,false))):l4V s=((Qv,v),b,0, -1,true):=by
 rw[Qmz h]; rfl
theorem Qcz (h:ZS s=((Qv,v,b),(-1, -1,true))):l4V s=((Qv,v),b,0, -1,false):=by
 rw[Qmz h]; rfl
theorem Qq4 {m:ByteArray}{n:Int}(h:Xz m n){p:Int}(h0:0≤p)(d:p < n):(0≤p∧p < m.size)∧(bAt m p=48∨bAt m p=49):=by
 obtain ⟨c,g⟩:=h
 have a:p.toNat < m.size:=by omega
 refine ⟨⟨h0,by omega⟩, ?_⟩
 have e:bAt m p=m[p.toNat]:=by unfold bAt; rw[dH m p.toNat a]; rfl
 rw[e]
 rcases c p.toNat a a with h | h
 ·exact .inl (UInt8.toNat_inj.1 h)
 ·exact .inr (UInt8.toNat_inj.1 h)
theorem Qhl {m:ByteArray}{n:Int}(h:Xz m n){ps:List Int}(d:JF ps (n - 1)):UT m ps:=fun p c=>by
 obtain ⟨j,a⟩:=aO.1 c
 have:=(d j (ah.1 a).1 p a).1
 exact Qq4 h (by omega) (by omega)
theorem Qfs (hv:YZ n)(h:Xz mk n.1):∀t∈n.2,UT mk t.1∧UT mk t.2:=fun t a=>⟨Qhl h (hv.2.2 t a).2.1,Qhl h (hv.2.2 t a).2.2⟩
theorem ZK (g:(QO n mk)[i]? =some t):Yx n mk t=Zw n mk t:=by
 obtain ⟨x,a,h,l,c,d⟩:=HR (ai g)
 exact Qug a c d
theorem Yu (d:(QO n mk)[i]? =some t):0≤t∧t < n.2.length:=by
 obtain ⟨x,a,c,_⟩:=HR (ai d)
 exact ⟨a,c⟩
theorem Ub (n:Yh)(mk:ByteArray):(QO n mk).length≤n.2.length:=QcE _ _ _
def LBits (l:List UInt8):Prop:=∀c∈l,c=48∨c=49
theorem LBits.set {l:List UInt8}(h:LBits l){c:UInt8}(g:c=48∨c=49)(i:Nat):LBits (l.set i c):=fun d m=>by
 rcases cR m with a | a
 ·exact h d a
 ·rw[a]; exact g
theorem LBits.clr {l:List UInt8}(h:LBits l)(ps:List Int):LBits (clr l ps):=by
 induction ps generalizing l with
 | nil=>exact h
 | cons p ps a=>exact a (h.set (.inl rfl) _)
theorem LBits.put {l c:List UInt8}(h:LBits l){ps:List Int}(a:Xq l ps=some c):LBits c∧c.length=l.length:=by
 induction ps generalizing l with
 | nil=>rw[Xq] at a; cases a; exact ⟨h,rfl⟩
 | cons p ps m=>
  rw[Xq] at a
  split at a
  ·cases a
  ·obtain ⟨d,g⟩:=m (h.set (.inr rfl) _) a
   exact ⟨d,by rw[g,au]⟩
theorem QoU {m:ByteArray}{n:Int}(h:Xz m n):LBits m.toList:=fun c g=>by
 rw[bB] at g
 obtain ⟨i,o,e⟩:=List.getElem_of_mem g
 have a:i < m.size:=by simpa using o
 have d:=h.1 i a a
 have l:m[i]=c:=by rw[← e]; rfl
 rw[l] at d
 rcases d with h | h
 ·exact .inl (UInt8.toNat_inj.1 h)
 ·exact .inr (UInt8.toNat_inj.1 h)
theorem Qpy {l:List UInt8}{n:Int}(h:LBits l)(d:(l.length:Int)=n):Xz ⟨l.toArray⟩ n:=by
 refine ⟨fun k g c=> ?_,by rw[← d]; rfl⟩
 have a:(⟨l.toArray⟩:ByteArray)[k]∈l:=by
  show l.toArray[k]∈l
  simp
 rcases h _ a with h | h
 ·exact .inl (by rw[h]; rfl)
 ·exact .inr (by rw[h]; rfl)
theorem WV (a:Xz mk n.1)(o:r=Zw n mk t)(h:r.2=true):Xz r.1 n.1:=by
 subst o
 unfold Zw at h ⊢
 cases d:n.2[t.toNat]? with
 | none=>rw[d] at h; cases h
 | some x=>
  rw[d] at h
  simp only at h ⊢
  unfold WW at h ⊢
  cases c:Xq (clr mk.toList x.1) x.2 with
  | none=>rw[c] at h; cases h
  | some l=>
   obtain ⟨g,m⟩:=((QoU a).clr x.1).put c
   refine Qpy g ?_
   rw[m,QhR,WP]
   exact a.2
theorem Qa7 {p:ByteArray→Prop}(h:∀m∈Qv,p m)(d:p x):∀m∈Qv++[x],p m:=fun m c=>by
 rcases aG.1 c with a | a
 ·exact h m a
 ·rw[aC.1 a]; exact d
theorem QhJ (h:Qv[k]? =some mk):(Qv++[x])[k]? =some mk:=by
 rw[bf (ah.1 h).1]; exact h
end
theorem J2 (Qv:List ByteArray)(m:ByteArray):FC Tryz.prog 378 [(false,[.dat Qu Qv]),(false,[dS m])] [] 0 (Za (lI (ZM Qv m))):=by
 refine Qn Tryz.func378 rfl rfl Tryz.ntmps378 fun A o w p B u q=> ?_
 refine w6 ?_
 refine alL 7 fun _=> ?_
 refine w4 ?_
 refine lpK Qv.length (fun k=>NoneTo (fun y=>decide (y=m)) Qv k) (fun k=>⟨[(1,lf (dS m)),(7,lf (.dat Qu Qv)),(8,lI (Qv.length:Int)),(9,lI (k:Int))],[]⟩) (NoneTo.zero) ?_ fun k _ a=> ?_
 exact wo []
 refine w4 ?_
 cases c:(decide ((k:Int) < (Qv.length:Int)))
 have d:=aa c
 refine w6 ?_
 refine Qe<|fqI o ?_
 first | exact (a.no (by omega)).symm
 have d:=ab c
 refine w6 ?_
 obtain ⟨z,l⟩:=gx Qv k
 refine w10 ?_
 cases g:(decide (z=m))
 have h:=aa g
 refine w6 ?_
 refine Qf ?_
 refine lK_ (a.step l ‹_›) ?_
 exact wo []
 have h:=ab g
 refine w5 ?_
 refine Qe<|fqI o ?_
 exact (a.at l ‹_›).symm
theorem Qck (s:YA)(X:StgOk s):FC Tryz.prog 359 [(true,[dI s.1.1, .dat QF s.1.2, .dat Qo s.2.1, .dat Qw s.2.2.1,dS s.2.2.2])] [] 0 (Is (PV.tup [(true,[.ref 0, .ref 1]),(false,[dI ((exV s).2.1)]),(false,[dI ((exV s).2.2.1)]),(false,[dB ((exV s).2.2.2)])]) [ar 0 9 .str (((exV s).1).1),ar 1 301 Zx (((exV s).1).2)]):=by
 have a8:=X.net.2.1
 refine Qn Tryz.func359 rfl rfl Tryz.ntmps359 fun O_ T b0 a3 X_ a5 a4=> ?_
 refine acG 0 0 fun _=> ?_
 refine w_ ?_
 refine xbx 0 ?_
 refine lc (xal 1 Qdu XI) ?_
 refine w4 ?_
 apply dW (i2 15 _ _ [⟨some 17,lR 2,[ar 2 9 .str ([s.2.2.2])]⟩,io 18 (ag [.ref 2, .val (.slice none 0 0)]),⟨some 19,lR 3,[(3,some (.mp false .str false .int ([])))]⟩,io 20 (lP 0 4),io 21 (lf (dS s.2.2.2)),⟨none,lf (.val undef),[(3,some (.mp false .str false .int (Yl .str ([]) s.2.2.2 0)))]⟩,io 22 (lR 3),⟨some 6,lP 4 0,[bx 4 178 [.val (.slice none 0 0), .val (.slice none 0 0)]]⟩,⟨none,lf (.val undef),[bx 4 178 [.ref 2, .val (.slice none 0 0)]]⟩,io 7 _]) [0,0,0,0,15,31,31,15,15,511,496,0]
 refine z2 ?_
 refine zz (fun _ l=>ac (dBs 2 (e:= .str) Ut) rfl) ?_
 refine zz (fun _ l=>ac (Qj KM ⟨_,_,rfl,(l.w rfl),rfl⟩ (av.1 (by simp only[QW,XG,bd,bt]; rw[(l.en 2 rfl)]; rfl)) rfl rfl) rfl)<|zz (fun _ l=>ac (VH (kt:=9) (et:=3) (kb:=false) (k:= .str) (vb:=false) (v:= .int) 3 rfl (l.fr 3 rfl) (nlr rfl)) rfl) ?_
 refine z2 ?_
 refine zz (fun _ l=>ac (QcU Qc4 QiP (l.v rfl) (l.n 3 rfl) (l.w rfl) (p:=s.2.2.2) rfl (Evl.ev (Qr rfl)) (u:=0) rfl) rfl) ?_
 refine z_ ?_
 refine zz (fun _ l=>ac (YP 4 Qdu XI rfl rfl (l.fr 4 rfl) (nlr rfl)) rfl)<|zz (fun _ l=>ac (Q6 (l.v rfl) (l.en 4 rfl) (l.w rfl) (by simp only[QW,XG,bd,bt]; rw[(l.en 2 rfl)]; rfl) Qu4 rfl) rfl) ?_
 exact y1
 refine w5 ?_
 refine AC.wk (Qq 6 (p:=4) (off:=1) 301 Zx rfl rfl (Fresh.of rfl) (nlr rfl)) ?_
 refine QH (fun L M=>∃(k:Nat) (Qv:List ByteArray) (z:List (Int×Int×Int)) (idx:List (ByteArray×Int)),k≤300∧L=300 - k∧(∃b,ZS s=goK s.1 (301 - k) k (Qv,z,b))∧(∀m∈Qv,Xz m s.1.1)∧(Qv.length≤300)∧(z.length≤24*k)∧(IdxOf Qv idx)∧M=⟨[(1,lP 0 0),(2,lP 1 0),(6,lP 4 0),(7,lR 8),(8,lI (k:Int))],[bx 0 51 [dI s.1.1, .dat QF s.1.2, .dat Qo s.2.1, .dat Qw s.2.2.1,dS s.2.2.2],bx 1 178 [.val (.slice none 0 0), .val (.slice none 0 0)],bx 4 178 [.ref 5, .ref 7],ar 5 9 .str Qv,ar 7 301 Zx z,(8,some (.mp false .str false .int idx))]⟩) ⟨0,[s.2.2.2],([]:(Y5:Ty).Den),Yl .str ([]) s.2.2.2 0,aP _,rfl,⟨_,rfl⟩,(by intro m hm; rw[aC.1 hm]; exact X.bits),(aA rfl),(aA rfl),IdxOf.one _,rfl⟩ ?_ ?_
 exact wp [(5,2),(7,6),(8,3)] ⟨rfl,rfl,rfl,(Qh (by first | rfl | simp)),(Qh (by first | rfl | simp)),(Qk3 (by first | rfl | simp)),trivial⟩
 rintro L M ⟨k,Qv,z,idx,V,a7,H,Y,hl,hv,hI,rfl⟩
 refine w8 ?_
 cases I:(decide ((k:Int) < (Qv.length:Int)))
 have J:=aa I
 refine w11 ?_
 have e5:((-1):Int)=((exV s).2.1):=by
  (rw[X3 (H.elim fun b h=>⟨_,h.trans (Wz (by omega))⟩)]; done)
 have e6:((-1):Int)=((exV s).2.2.1):=by
  (rw[X3 (H.elim fun b h=>⟨_,h.trans (Wz (by omega))⟩)]; done)
 have e7:(true:Bool)=((exV s).2.2.2):=by
  (rw[X3 (H.elim fun b h=>⟨_,h.trans (Wz (by omega))⟩)]; done)
 exact fi_ [(0,5),(1,7)] T ⟨(Qh (by (rw[X3 (H.elim fun b h=>⟨_,h.trans (Wz (by omega))⟩)]; done))),(Qh (by (rw[X3 (H.elim fun b h=>⟨_,h.trans (Wz (by omega))⟩)]; done))),trivial⟩ (h0:=by rw[← e5,← e6,← e7] <;> rfl)
 have J:=ab I
 refine w4 ?_
 obtain ⟨mk,C⟩:=gx Qv k
 have U:=Y _ (ai C)
 have K:=Qfs X.net U
 have a6:=Ub s.1 mk
 apply dW (i5 30 _ _ _ _ _ (io 35 (lf (.ept 5 1 k 0)) :: io 36 (lf (dS mk)) :: io 37 (lf (.dat Qm (QO s.1 mk))) :: i2 38 _ _ [])) [0,0,3,3,15,3,3,0,0,511]
 refine z5 ?_
 refine zz (fun _ l=>ac (QU (e:= .str) (l.v rfl) (l.en 5 rfl) (l.v rfl) XQ Xw rfl (by omega) (by first | omega | (simp only[au]; omega))) rfl)<|zz (fun _ l=>ac (Zi (e:= .str) (l.v rfl) (l.n 5 rfl) C rfl Xw rfl rfl) rfl) ?_
 refine zz (fun _ l=>ac (dK (Jn s.1 mk K (by omega)).frozen QeJ) rfl) ?_
 exact y2
 refine w_ ?_
 refine QH (fun L M=>∃(i:Nat) (c:List ByteArray) (d:List (Int×Int×Int)) (o:List (ByteArray×Int)),i≤(QO s.1 mk).length∧L=(QO s.1 mk).length - i∧(∃b,ZS s=H9 s.1 (300 - k) k (goT s.1 k mk ((QO s.1 mk).drop i) (c,d,b)))∧(∀m∈c,Xz m s.1.1)∧(c.length≤300)∧(c[k]? =some mk)∧(d.length≤24*k+i)∧(IdxOf c o)∧M=⟨[(1,lP 0 0),(2,lP 1 0),(6,lP 4 0),(7,lR 11),(8,lI (k:Int)),(23,lI (k:Int)),(24,lP 4 0),(26,lI (Qv.length:Int)),(27,lB true),(30,lP 0 0),(31,ag [dI s.1.1, .dat QF s.1.2]),(32,lP 4 0),(34,lI (k:Int)),(36,lf (dS mk)),(37,lf (.dat Qm (QO s.1 mk))),(38,lI ((QO s.1 mk).length:Int)),(39,lI (i:Int))],[bx 0 51 [dI s.1.1, .dat QF s.1.2, .dat Qo s.2.1, .dat Qw s.2.2.1,dS s.2.2.2],bx 1 178 [.val (.slice none 0 0), .val (.slice none 0 0)],bx 4 178 [.ref 9, .ref 10],ar 9 9 .str c,ar 10 301 Zx d,(11,some (.mp false .str false .int o))]⟩) ⟨0,Qv,z,idx,aP _,rfl,H.elim fun b h=>⟨_,h.trans (QrM C (by omega))⟩,Y,hl,C,(by omega),hI,rfl⟩ ?_ ?_
 exact wo [(9,5),(10,7),(11,8)]
 rintro L M ⟨i,c,d,o,a1,a2,q,B,W,A,a9,y,rfl⟩
 have V:=(ah.1 A).1
 refine w4 ?_
 cases D:(decide ((i:Int) < ((QO s.1 mk).length:Int)))
 have F:=aa D
 refine w7 ?_
 refine Qf<|ZF ⟨k+1,c,d,o,by omega,rfl,q.elim fun b h=>⟨_,h.trans (QnG (by omega) (by omega))⟩,B,W,(by omega),y,rfl⟩ (by omega) ?_
 exact wo [(5,9),(7,10),(8,11)]
 have F:=ab D
 refine w5 ?_
 obtain ⟨g,a⟩:=gx (QO s.1 mk) i
 refine w2 ?_
 refine alI 42 fun _=> ?_
 refine w2 ?_
 apply dW (i5 44 _ _ _ _ _ (io 49 (lf (.ept 9 1 k 0)) :: io 50 (lf (dS mk)) :: io 51 _ :: io 52 (PV.tup [(false,[dS ((Yx s.1 mk g).1)]),(false,[dB ((Yx s.1 mk g).2)])]) :: io 43 _ :: i2 53 _ _ (i2 11 _ _ []))) [0,0,3,3,15,3,3,127,0,0,0,1024,2048,0]
 refine z5 ?_
 refine zz (fun _ l=>ac (QU (e:= .str) (l.v rfl) (l.en 9 rfl) (l.v rfl) XQ Xw rfl (by omega) (by first | omega | (simp only[au]; omega))) rfl)<|zz (fun _ l=>ac (Zi (e:= .str) (l.v rfl) (l.n 9 rfl) A rfl Xw rfl rfl) rfl) ?_
 refine z_ ?_
 refine zz (fun _ l=>ac (dK (QhY s.1 mk g K (by omega)) Qmg) rfl) ?_
 exact y5
 refine w5 ?_
 cases Z:((Yx s.1 mk g).2)
 refine w11 ?_
 have N:((k:Int):Int)=((exV s).2.1):=by
  (rw[X3 (q.elim fun b h=>⟨_,h.trans (WA a (ZK a) ‹_›)⟩)]; done)
 have O:(g:Int)=((exV s).2.2.1):=by
  (rw[X3 (q.elim fun b h=>⟨_,h.trans (WA a (ZK a) ‹_›)⟩)]; done)
 have P:(false:Bool)=((exV s).2.2.2):=by
  (rw[X3 (q.elim fun b h=>⟨_,h.trans (WA a (ZK a) ‹_›)⟩)]; done)
 exact fi_ [(0,9),(1,10)] T ⟨(Qh (by (rw[X3 (q.elim fun b h=>⟨_,h.trans (WA a (ZK a) ‹_›)⟩)]; done))),(Qh (by (rw[X3 (q.elim fun b h=>⟨_,h.trans (WA a (ZK a) ‹_›)⟩)]; done))),trivial⟩ (h0:=by rw[N,← O,← P] <;> rfl)
 refine w5 ?_
 refine lc (Qf8 Qc4 QiP QyC (Qa rfl) rfl (Ql rfl) (p:=(Yx s.1 mk g).1) rfl rfl rfl) ?_
 refine w11 ?_
 cases a0:((YD .str o ((Yx s.1 mk g).1)).isSome)
 refine w8 ?_
 cases E:(decide ((c.length:Int)=300))
 have G:=aa E
 refine w12 ?_
 refine lc (V7 Qc4 QiP (Qa rfl) rfl (Ql rfl) (p:=(Yx s.1 mk g).1) rfl (Ql rfl) (u:=(c.length:Int)) rfl) ?_
 refine w5 ?_
 refine lc (dBs 12 (e:= .str) Ut) ?_
 refine lc (dA 13 Jm) ?_
 refine w9 ?_
 refine lc (Qj Hq ⟨_,_,rfl,(Ql rfl),⟨_,_,rfl,(Ql rfl),⟨_,_,rfl,(Ql rfl),rfl⟩⟩⟩ (av.1 rfl) rfl rfl) ?_
 refine lc (dBs 14 (e:=Zx) YX (hab:=by exact ⟨_,_,_,_,rfl,⟨[dI (k:Int)],[dI g,dI (c.length:Int)],_,_,_,_,rfl,rfl,⟨rfl,rfl⟩,⟨[dI g],[dI (c.length:Int)],_,_,_,_,rfl,rfl,⟨rfl,rfl⟩,⟨rfl,rfl⟩,rfl⟩,rfl⟩,⟨rfl,rfl⟩,rfl⟩)) ?_
 refine lc (dA 15 Hw) ?_
 refine w2 ?_
 refine Qf ?_
 refine w4 ?_
 refine Qf<|ZF ⟨i+1,(c++([(Yx s.1 mk g).1])),(d++([((k:Int),g,(c.length:Int))])),(Yl .str o ((Yx s.1 mk g).1) (c.length:Int)),by omega,rfl,by first | exact q.elim fun b h=>⟨_,h.trans (QdN a (ZK a) ‹_› (y.old ‹_›))⟩ | exact q.elim fun b h=>⟨_,h.trans (QdM a (ZK a) ‹_› (y.new ‹_›) ‹_›)⟩,by first | exact B | exact Qa7 B (WV (B _ (ai A)) (ZK a) ‹_›),(by (simp only[ae,aq,az]; omega)),by first | exact A | exact QhJ A,(by simp only[ae,aq,az]; omega),by first | exact y | exact y.set ‹_›,rfl⟩ (by omega) ?_
 exact wp [(9,13),(10,15)] ⟨rfl,rfl,rfl,(Qh (by first | rfl | simp)),(Qh (by first | rfl | simp)),(Qk3 (by first | rfl | simp)),trivial⟩
 have G:=ab E
 refine w9 ?_
 have Q:((-1):Int)=((exV s).2.1):=by
  (rw[X3 (q.elim fun b h=>⟨_,h.trans (Xn a (ZK a) ‹_› (y.new ‹_›) ‹_›)⟩)]; done)
 have R:((-1):Int)=((exV s).2.2.1):=by
  (rw[X3 (q.elim fun b h=>⟨_,h.trans (Xn a (ZK a) ‹_› (y.new ‹_›) ‹_›)⟩)]; done)
 have S:(false:Bool)=((exV s).2.2.2):=by
  (rw[X3 (q.elim fun b h=>⟨_,h.trans (Xn a (ZK a) ‹_› (y.new ‹_›) ‹_›)⟩)]; done)
 exact fi_ [(0,9),(1,10)] T ⟨(Qh (by (rw[X3 (q.elim fun b h=>⟨_,h.trans (Xn a (ZK a) ‹_› (y.new ‹_›) ‹_›)⟩)]; done))),(Qh (by (rw[X3 (q.elim fun b h=>⟨_,h.trans (Xn a (ZK a) ‹_› (y.new ‹_›) ‹_›)⟩)]; done))),trivial⟩ (h0:=by rw[← Q,← R,← S] <;> rfl)
 refine w8 ?_
 refine lc (Qj Hq ⟨_,_,rfl,(Ql rfl),⟨_,_,rfl,(Ql rfl),⟨_,_,rfl,(Ql rfl),rfl⟩⟩⟩ (av.1 rfl) rfl rfl) ?_
 refine lc (dBs 16 (e:=Zx) YX (hab:=by exact ⟨_,_,_,_,rfl,⟨[dI (k:Int)],[dI g,dI ((YD .str o ((Yx s.1 mk g).1)).getD (Ty.zero .int))],_,_,_,_,rfl,rfl,⟨rfl,rfl⟩,⟨[dI g],[dI ((YD .str o ((Yx s.1 mk g).1)).getD (Ty.zero .int))],_,_,_,_,rfl,rfl,⟨rfl,rfl⟩,⟨rfl,rfl⟩,rfl⟩,rfl⟩,⟨rfl,rfl⟩,rfl⟩)) ?_
 refine lc (dA 17 Hw) ?_
 refine w2 ?_
 refine Qf ?_
 refine w4 ?_
 refine Qf<|ZF ⟨i+1,c,(d++([((k:Int),g,(YD .str o ((Yx s.1 mk g).1)).getD (Ty.zero .int))])),o,by omega,rfl,by first | exact q.elim fun b h=>⟨_,h.trans (QdN a (ZK a) ‹_› (y.old ‹_›))⟩ | exact q.elim fun b h=>⟨_,h.trans (QdM a (ZK a) ‹_› (y.new ‹_›) ‹_›)⟩,by first | exact B | exact Qa7 B (WV (B _ (ai A)) (ZK a) ‹_›),(by omega),by first | exact A | exact QhJ A,(by simp only[ae,aq,az]; omega),by first | exact y | exact y.set ‹_›,rfl⟩ (by omega) ?_
 exact wp [(10,17)] ⟨rfl,rfl,rfl,rfl,(Qh (by first | rfl | simp)),rfl,trivial⟩
theorem Qdm (s:YA)(W:StgOk s):FC Tryz.prog 254 [(true,[dI s.1.1, .dat QF s.1.2, .dat Qo s.2.1, .dat Qw s.2.2.1,dS s.2.2.2])] [] 0 (Is (ag [.ref 0, .ref 1, .ref 2,dI ((l4V s).2.2.1),dI ((l4V s).2.2.2.1),dB ((l4V s).2.2.2.2)]) [ar 0 9 .str (((l4V s).1).1),ar 1 301 Zx (((l4V s).1).2),ar 2 301 Zx ((l4V s).2.1)]):=by
 have a6:=W.net.2.1
 refine Qn Tryz.func254 rfl rfl Tryz.ntmps254 fun O_ S a9 a1 X_ a3 a2=> ?_
 refine acG 0 0 fun _=> ?_
 refine w_ ?_
 refine xbx 0 ?_
 refine lc (xal 1 Qw1 Qd1) ?_
 refine w4 ?_
 refine lc (dBs 2 (e:= .str) Ut) ?_
 refine lc (Qj KM ⟨_,_,rfl,(Ql rfl),rfl⟩ (av.1 rfl) rfl rfl)<|lc (Qj Hq rfl (av.1 rfl) rfl rfl) ?_
 refine lc (dBs 3 (e:=Zx) YX (hab:=by exact ⟨_,_,_,_,rfl,⟨[dI 0],[dI 0,dI 0],_,_,_,_,rfl,rfl,⟨rfl,rfl⟩,⟨[dI 0],[dI 0],_,_,_,_,rfl,rfl,⟨rfl,rfl⟩,⟨rfl,rfl⟩,rfl⟩,rfl⟩,⟨rfl,rfl⟩,rfl⟩)) ?_
 refine lc (Qj QtL ⟨_,_,rfl,(Ql rfl),⟨_,_,rfl,(Ql rfl),⟨_,_,rfl,(Evl.ev (Qr rfl)),rfl⟩⟩⟩ (av.1 rfl) rfl rfl)<|lc (xal 4 Qw1 Qd1) ?_
 refine w7 ?_
 refine AC.wk (Qq 6 (p:=4) (off:=1) 301 Zx rfl rfl (Fresh.of rfl) (nlr rfl)) ?_
 refine QH (fun K L=>∃(k:Nat) (Qv:List ByteArray) (l:List (Int×Int×Int)) (y:List (Int×Int×Int)),k≤300∧K=300 - k∧(ZS s=goK s.1 (301 - k) k (Qv,l,y))∧(∀m∈Qv,Xz m s.1.1)∧(Qv.length≤300)∧(l.length≤24*k)∧(y.length≤24*k+1)∧L=⟨[(1,lP 0 0),(2,lP 1 0),(3,lP 4 0),(4,lI (k:Int))],[bx 0 51 [dI s.1.1, .dat QF s.1.2, .dat Qo s.2.1, .dat Qw s.2.2.1,dS s.2.2.2],bx 1 281 [.val (.slice none 0 0), .val (.slice none 0 0), .val (.slice none 0 0),dI 0,dI 0,dB false],bx 4 281 [.ref 5, .ref 7, .ref 8,dI 0,dI (-1),dB false],ar 5 9 .str Qv,ar 7 301 Zx l,ar 8 301 Zx y]⟩) ⟨0,[s.2.2.2],([]:(Y5:Ty).Den),[(0,0,0)],aP _,rfl,rfl,(by intro m hm; rw[aC.1 hm]; exact W.bits),(aA rfl),(aA rfl),(aA rfl),rfl⟩ ?_ ?_
 exact wp [(5,2),(7,6),(8,3)] ⟨rfl,rfl,rfl,(Qh (by first | rfl | simp)),(Qh (by first | rfl | simp)),(Qh (by first | rfl | simp)),trivial⟩
 rintro K L ⟨k,Qv,l,y,U,a5,D,X,hl,hv,hy,rfl⟩
 refine w9 ?_
 cases H:(decide ((k:Int) < (Qv.length:Int)))
 have I:=aa H
 refine w8 ?_
 have e5:(0:Int)=((l4V s).2.2.1):=by
  (rw[Qcz (D.trans (Wz (by omega)))]; done)
 have e6:((-1):Int)=((l4V s).2.2.2.1):=by
  (rw[Qcz (D.trans (Wz (by omega)))]; done)
 have e7:(false:Bool)=((l4V s).2.2.2.2):=by
  (rw[Qcz (D.trans (Wz (by omega)))]; done)
 exact fi_ [(0,5),(1,7),(2,8)] S ⟨(Qh (by (rw[Qcz (D.trans (Wz (by omega)))]; done))),(Qh (by (rw[Qcz (D.trans (Wz (by omega)))]; done))),(Qh (by (rw[Qcz (D.trans (Wz (by omega)))]; done))),trivial⟩ (h0:=by rw[← e5,← e6,← e7] <;> rfl)
 have I:=ab H
 refine w4 ?_
 obtain ⟨mk,z⟩:=gx Qv k
 have T:=X _ (ai z)
 have J:=Qfs W.net T
 have a4:=Ub s.1 mk
 apply dW (i6 25 _ _ _ _ _ _ (io 31 (lf (.ept 5 1 k 0)) :: io 32 (lf (dS mk)) :: io 33 (lf (.dat Qm (QO s.1 mk))) :: i2 34 _ _ [])) [0,0,3,3,3,31,3,3,0,0,1023]
 refine z6 ?_
 refine zz (fun _ w=>ac (QU (e:= .str) (w.v rfl) (w.en 5 rfl) (w.v rfl) XQ Xw rfl (by omega) (by first | omega | (simp only[au]; omega))) rfl)<|zz (fun _ w=>ac (Zi (e:= .str) (w.v rfl) (w.n 5 rfl) z rfl Xw rfl rfl) rfl) ?_
 refine zz (fun _ w=>ac (dK (UG s.1 mk J (by omega)).frozen QeK) rfl) ?_
 exact y2
 refine w_ ?_
 refine QH (fun K L=>∃(i:Nat) (a:List ByteArray) (g:List (Int×Int×Int)) (q:List (Int×Int×Int)),i≤(QO s.1 mk).length∧K=(QO s.1 mk).length - i∧(ZS s=H9 s.1 (300 - k) k (goT s.1 k mk ((QO s.1 mk).drop i) (a,g,q)))∧(∀m∈a,Xz m s.1.1)∧(a.length≤300)∧(a[k]? =some mk)∧(g.length≤24*k+i)∧(q.length≤24*k+1+i)∧L=⟨[(1,lP 0 0),(2,lP 1 0),(3,lP 4 0),(4,lI (k:Int)),(17,lI (k:Int)),(18,lP 4 0),(19,lP 4 0),(21,lI (Qv.length:Int)),(22,lB true),(25,lP 0 0),(26,ag [dI s.1.1, .dat QF s.1.2]),(27,lP 4 0),(28,lP 4 0),(30,lI (k:Int)),(32,lf (dS mk)),(33,lf (.dat Qm (QO s.1 mk))),(34,lI ((QO s.1 mk).length:Int)),(35,lI (i:Int))],[bx 0 51 [dI s.1.1, .dat QF s.1.2, .dat Qo s.2.1, .dat Qw s.2.2.1,dS s.2.2.2],bx 1 281 [.val (.slice none 0 0), .val (.slice none 0 0), .val (.slice none 0 0),dI 0,dI 0,dB false],bx 4 281 [.ref 9, .ref 10, .ref 11,dI 0,dI (-1),dB false],ar 9 9 .str a,ar 10 301 Zx g,ar 11 301 Zx q]⟩) ⟨0,Qv,l,y,aP _,rfl,D.trans (QrM z (by omega)),X,hl,z,(by omega),(by omega),rfl⟩ ?_ ?_
 exact wo [(9,5),(10,7),(11,8)]
 rintro K L ⟨i,a,g,q,Z,a0,h,u,V,o,a7,a8,rfl⟩
 have U:=(ah.1 o).1
 refine w4 ?_
 cases A:(decide ((i:Int) < ((QO s.1 mk).length:Int)))
 have E:=aa A
 refine w7 ?_
 refine Qf<|ZF ⟨k+1,a,g,q,by omega,rfl,h.trans (QnG (by omega) (by omega)),u,V,(by omega),(by omega),rfl⟩ (by omega) ?_
 exact wo [(5,9),(7,10),(8,11)]
 have E:=ab A
 refine w5 ?_
 obtain ⟨d,c⟩:=gx (QO s.1 mk) i
 refine w2 ?_
 refine alI 38 fun _=> ?_
 refine w2 ?_
 apply dW (i6 40 _ _ _ _ _ _ (io 46 (lf (.ept 9 1 k 0)) :: io 47 (lf (dS mk)) :: io 48 _ :: io 49 (PV.tup [(false,[dS ((Zw s.1 mk d).1)]),(false,[dB ((Zw s.1 mk d).2)])]) :: io 39 _ :: i2 50 _ _ (i2 7 _ _ []))) [0,0,3,3,3,31,3,3,255,0,0,0,2048,4096,0]
 refine z6 ?_
 refine zz (fun _ w=>ac (QU (e:= .str) (w.v rfl) (w.en 9 rfl) (w.v rfl) XQ Xw rfl (by omega) (by first | omega | (simp only[au]; omega))) rfl)<|zz (fun _ w=>ac (Zi (e:= .str) (w.v rfl) (w.n 9 rfl) o rfl Xw rfl rfl) rfl) ?_
 refine z_ ?_
 refine zz (fun _ w=>ac (dK (Qe6 s.1 mk d J (Yu c)) Ql2) rfl) ?_
 exact y5
 refine w5 ?_
 cases Y:((Zw s.1 mk d).2)
 refine w16 ?_
 have M:((k:Int):Int)=((l4V s).2.2.1):=by
  (rw[HD (h.trans (WA c rfl ‹_›)) (Yu c).1]; done)
 have N:(d:Int)=((l4V s).2.2.2.1):=by
  (rw[HD (h.trans (WA c rfl ‹_›)) (Yu c).1]; done)
 have O:(false:Bool)=((l4V s).2.2.2.2):=by
  (rw[HD (h.trans (WA c rfl ‹_›)) (Yu c).1]; done)
 exact fi_ [(0,9),(1,10),(2,11)] S ⟨(Qh (by (rw[HD (h.trans (WA c rfl ‹_›)) (Yu c).1]; done))),(Qh (by (rw[HD (h.trans (WA c rfl ‹_›)) (Yu c).1]; done))),(Qh (by (rw[HD (h.trans (WA c rfl ‹_›)) (Yu c).1]; done))),trivial⟩ (h0:=by rw[M,← N,← O] <;> rfl)
 refine w7 ?_
 refine lc (dB_ (J2 a ((Zw s.1 mk d).1)) QeR) ?_
 refine w7 ?_
 cases B:(decide ((ZM a ((Zw s.1 mk d).1)) < 0))
 have F:=aa B
 refine w9 ?_
 refine lc (Qj Hq ⟨_,_,rfl,(Ql rfl),⟨_,_,rfl,(Ql rfl),⟨_,_,rfl,(Ql rfl),rfl⟩⟩⟩ (av.1 rfl) rfl rfl) ?_
 refine lc (dBs 12 (e:=Zx) YX (hab:=by exact ⟨_,_,_,_,rfl,⟨[dI (k:Int)],[dI d,dI (ZM a ((Zw s.1 mk d).1))],_,_,_,_,rfl,rfl,⟨rfl,rfl⟩,⟨[dI d],[dI (ZM a ((Zw s.1 mk d).1))],_,_,_,_,rfl,rfl,⟨rfl,rfl⟩,⟨rfl,rfl⟩,rfl⟩,rfl⟩,⟨rfl,rfl⟩,rfl⟩)) ?_
 refine lc (dA 13 Hw) ?_
 refine w3 ?_
 refine Qf ?_
 refine w4 ?_
 refine Qf<|ZF ⟨i+1,a,(g++([((k:Int),d,ZM a ((Zw s.1 mk d).1))])),q,by omega,rfl,by first | exact h.trans (QdN c rfl ‹_› ⟨by omega,rfl⟩) | exact h.trans (QdM c rfl ‹_› (by omega) ‹_›),by first | exact u | exact Qa7 u (WV (u _ (ai o)) rfl ‹_›),(by omega),by first | exact o | exact QhJ o,(by simp only[ae,aq,az]; omega),(by omega),rfl⟩ (by omega) ?_
 exact wp [(10,13)] ⟨rfl,rfl,rfl,rfl,(Qh (by first | rfl | simp)),rfl,trivial⟩
 have F:=ab B
 refine w9 ?_
 cases C:(decide ((a.length:Int)=300))
 have G:=aa C
 refine w14 ?_
 refine lc (dBs 14 (e:= .str) Ut) ?_
 refine lc (dA 15 Jm) ?_
 refine w10 ?_
 refine lc (Qj Hq ⟨_,_,rfl,(Ql rfl),⟨_,_,rfl,(Ql rfl),⟨_,_,rfl,(Ql rfl),rfl⟩⟩⟩ (av.1 rfl) rfl rfl) ?_
 refine lc (dBs 16 (e:=Zx) YX (hab:=by exact ⟨_,_,_,_,rfl,⟨[dI (k:Int)],[dI d,dI (a.length:Int)],_,_,_,_,rfl,rfl,⟨rfl,rfl⟩,⟨[dI d],[dI (a.length:Int)],_,_,_,_,rfl,rfl,⟨rfl,rfl⟩,⟨rfl,rfl⟩,rfl⟩,rfl⟩,⟨rfl,rfl⟩,rfl⟩)) ?_
 refine lc (dA 17 Hw) ?_
 refine w10 ?_
 refine lc (Qj Hq ⟨_,_,rfl,(Ql rfl),⟨_,_,rfl,(Ql rfl),⟨_,_,rfl,(Ql rfl),rfl⟩⟩⟩ (av.1 rfl) rfl rfl) ?_
 refine lc (dBs 18 (e:=Zx) YX (hab:=by exact ⟨_,_,_,_,rfl,⟨[dI (k:Int)],[dI d,dI (a.length:Int)],_,_,_,_,rfl,rfl,⟨rfl,rfl⟩,⟨[dI d],[dI (a.length:Int)],_,_,_,_,rfl,rfl,⟨rfl,rfl⟩,⟨rfl,rfl⟩,rfl⟩,rfl⟩,⟨rfl,rfl⟩,rfl⟩)) ?_
 refine lc (dA 19 Hw) ?_
 refine w3 ?_
 refine Qf ?_
 refine w4 ?_
 refine Qf<|ZF ⟨i+1,(a++([(Zw s.1 mk d).1])),(g++([((k:Int),d,(a.length:Int))])),(q++([((k:Int),d,(a.length:Int))])),by omega,rfl,by first | exact h.trans (QdN c rfl ‹_› ⟨by omega,rfl⟩) | exact h.trans (QdM c rfl ‹_› (by omega) ‹_›),by first | exact u | exact Qa7 u (WV (u _ (ai o)) rfl ‹_›),(by (simp only[ae,aq,az]; omega)),by first | exact o | exact QhJ o,(by simp only[ae,aq,az]; omega),(by (simp only[ae,aq,az]; omega)),rfl⟩ (by omega) ?_
 exact wp [(9,15),(10,19),(11,17)] ⟨rfl,rfl,rfl,(Qh (by first | rfl | simp)),(Qh (by first | rfl | simp)),(Qh (by first | rfl | simp)),trivial⟩
 have G:=ab C
 refine w10 ?_
 have P:(0:Int)=((l4V s).2.2.1):=by
  (rw[Kw (h.trans (Xn c rfl ‹_› (by omega) ‹_›))]; done)
 have Q:((-1):Int)=((l4V s).2.2.2.1):=by
  (rw[Kw (h.trans (Xn c rfl ‹_› (by omega) ‹_›))]; done)
 have R:(true:Bool)=((l4V s).2.2.2.2):=by
  (rw[Kw (h.trans (Xn c rfl ‹_› (by omega) ‹_›))]; done)
 exact fi_ [(0,9),(1,10),(2,11)] S ⟨(Qh (by (rw[Kw (h.trans (Xn c rfl ‹_› (by omega) ‹_›))]; done))),(Qh (by (rw[Kw (h.trans (Xn c rfl ‹_› (by omega) ‹_›))]; done))),(Qh (by (rw[Kw (h.trans (Xn c rfl ‹_› (by omega) ‹_›))]; done))),trivial⟩ (h0:=by rw[← P,← Q,← R] <;> rfl)
end Go.Proofs.YtndabgcpnmeeoaaGreat
