/- Walks over abstract states: reachability. -/
import Derived.Test.YtgpdhgadmjfokaaGreatBWk
set_option linter.unusedSimpArgs false
set_option linter.unusedVariables false
set_option linter.unusedSectionVars false
namespace Go.Proofs.YtgpdhgadmjfokaaGreat
open Go.RowKit
set_option maxRecDepth 100000
set_option maxHeartbeats 4000000
abbrev RS:=List ByteArray×List (Int×Int×Int)×List (Int×Int×Int)
abbrev QiQ:=Int×Int×Bool
def Yx (l:List ByteArray)(x:ByteArray):Int:=Zl (fun y=>decide (y=x)) l
def goT (n:Xr)(k:Nat)(mk:ByteArray):List Int→RS→RS×QiQ
 | [],st=>(st,(-1, -1,true))
 | t :: ts,st=>
  if (YE n mk t).2=false then (st,(k,t,false))
  else if 0≤Yx st.1 (YE n mk t).1 then goT n k mk ts (st.1,st.2.1++[((k:Int),t,Yx st.1 (YE n mk t).1)],st.2.2)
  else if st.1.length=300 then (st,(-1, -1,false))
  else goT n k mk ts (st.1++[(YE n mk t).1],st.2.1++[((k:Int),t,(st.1.length:Int))],st.2.2++[((k:Int),t,(st.1.length:Int))])
def goK (n:Xr):Nat→Nat→RS→RS×QiQ
 | 0,_,st=>(st,(-1, -1,true))
 | f+1,k,st=>match st.1[k]? with
  | none=>(st,(-1, -1,true))
  | some mk=>if (goT n k mk (Jj n mk) st).2.2.2=true then goK n f (k+1) (goT n k mk (Jj n mk) st).1 else goT n k mk (Jj n mk) st
def Qbq (n:Xr)(f k:Nat)(r:RS×QiQ):RS×QiQ:=if r.2.2.2=true then goK n f (k+1) r.1 else r
def ZO (s:Q5):RS×QiQ:=goK s.1 301 0 ([s.2.2.2],[],[((0:Int),(0:Int),(0:Int))])
def exV (s:Q5):(List ByteArray×List (Int×Int×Int))×Int×Int×Bool:=(((ZO s).1.1,(ZO s).1.2.1),(ZO s).2)
def l4V (s:Q5):(List ByteArray×List (Int×Int×Int))×List (Int×Int×Int)×Int×Int×Bool:=
 (((ZO s).1.1,(ZO s).1.2.1),(ZO s).1.2.2,(if 0≤(ZO s).2.2.1 then (ZO s).2.1 else 0),(ZO s).2.2.1,(!(ZO s).2.2.2&&decide ((ZO s).2.2.1 < 0)))
def Qlo:List ByteArray×List (Int×Int×Int):=([],[])
section
variable [∀s,Decidable (StgOk s)]
def Qq (s:Q5):(List ByteArray×List (Int×Int×Int))×Bool:=if StgOk s∧(ZO s).2.2.2=true then (((ZO s).1.1,(ZO s).1.2.1),true) else (Qlo,false)
end
theorem Qp9 (l:List ByteArray)(x y:ByteArray):Yx (l++[y]) x=if 0≤Yx l x then Yx l x else if y=x then (l.length:Int) else -1:=by
 unfold Yx Zl
 rw[List.findIdx?_append]
 cases h:l.findIdx? (fun z=>decide (z=x)) with
 | some i=>simp
 | none=>
  by_cases e:y=x
  ·simp[e]
  ·simp[e]
def IdxOf (QI:List ByteArray)(idx:List (ByteArray×Int)):Prop:=∀x,Z4 .str idx x=if 0≤Yx QI x then some (Yx QI x) else none
section
variable {QI:List ByteArray}{idx:List (ByteArray×Int)}{x:ByteArray}{v b:List (Int×Int×Int)}{n:Xr}{k f i:Nat}{mk:ByteArray}{t:Int}{ts:List Int}{r:ByteArray×Bool}{j:Int}{s:Q5}{e:QiQ}
theorem QxJ (h:IdxOf QI idx)(c:(Z4 .str idx x).isSome=true):0≤Yx QI x∧(Z4 .str idx x).getD (Ty.zero .int)=Yx QI x:=by
 rw[h x] at c ⊢
 by_cases a:0≤Yx QI x
 ·rw[if_pos a]; exact ⟨a,rfl⟩
 ·rw[if_neg a] at c; cases c
theorem IdxOf.new (h:IdxOf QI idx)(a:(Z4 .str idx x).isSome=false):¬0≤Yx QI x:=by
 rw[h x] at a
 intro c
 rw[if_pos c] at a; cases a
theorem IdxOf.set (h:IdxOf QI idx)(d:(Z4 .str idx x).isSome=false):IdxOf (QI++[x]) (Y2 .str idx x (QI.length:Int)):=fun y=>by
 have c:=h.new d
 rw[VJ,Qp9,h y]
 by_cases e:x=y
 ·subst e
  rw[if_pos ((Ty.beq_iff .str x x).2 rfl),if_neg c,if_pos rfl,if_pos (cp _)]
 ·have:Ty.beq .str x y=false:=bR.2 fun h=>e ((Ty.beq_iff .str x y).1 h)
  rw[if_neg (show¬Ty.beq .str x y=true by rw[this]; decide),if_neg e]
  by_cases a:0≤Yx QI y
  ·rw[if_pos a,if_pos a,if_pos a]
  ·rw[if_neg a,if_neg a,if_neg (by decide)]
theorem IdxOf.one (x:ByteArray):IdxOf [x] (Y2 .str ([]:List (ByteArray×Int)) x 0):=fun y=>by
 rw[VJ]
 by_cases e:x=y
 ·subst e
  rw[if_pos ((Ty.beq_iff .str x x).2 rfl)]
  simp[Yx,Zl]
 ·have:Ty.beq .str x y=false:=bR.2 fun h=>e ((Ty.beq_iff .str x y).1 h)
  rw[if_neg (show¬Ty.beq .str x y=true by rw[this]; decide)]
  simp[Yx,Zl,e,Z4]
theorem Hr (c:ts[i]? =some t)(a:r=YE n mk t)(hb:r.2=false):Qbq n f k (goT n k mk (ts.drop i) (QI,v,b))=((QI,v,b),((k:Int),t,false)):=by
 subst a
 rw[Yd c,goT,if_pos hb]
 rfl
theorem Qoz (d:ts[i]? =some t)(c:r=YE n mk t)(hb:r.2=true)(a:0≤Yx QI r.1∧j=Yx QI r.1):Qbq n f k (goT n k mk (ts.drop i) (QI,v,b))=Qbq n f k (goT n k mk (ts.drop (i+1)) (QI,v++[((k:Int),t,j)],b)):=by
 subst c
 rw[Yd d,goT,if_neg (by rw[hb]; decide),if_pos a.1,a.2]
theorem UX (d:ts[i]? =some t)(c:r=YE n mk t)(hb:r.2=true)(a:¬0≤Yx QI r.1)(g:(QI.length:Int)=300):Qbq n f k (goT n k mk (ts.drop i) (QI,v,b))=((QI,v,b),(-1, -1,false)):=by
 subst c
 rw[Yd d,goT,if_neg (by rw[hb]; decide),if_neg a,if_pos (show QI.length=300 by omega)]
 rfl
theorem Qnw (d:ts[i]? =some t)(c:r=YE n mk t)(hb:r.2=true)(a:¬0≤Yx QI r.1)(g:¬(QI.length:Int)=300):Qbq n f k (goT n k mk (ts.drop i) (QI,v,b))=Qbq n f k (goT n k mk (ts.drop (i+1)) (QI++[r.1],v++[((k:Int),t,(QI.length:Int))],b++[((k:Int),t,(QI.length:Int))])):=by
 subst c
 rw[Yd d,goT,if_neg (by rw[hb]; decide),if_neg a,if_neg (show¬QI.length=300 by omega)]
theorem QtB (hi:ts.length≤i)(a:k < 300):Qbq n (300 - k) k (goT n k mk (ts.drop i) (QI,v,b))=goK n (301 - (k+1)) (k+1) (QI,v,b):=by
 rw[bJ hi,goT,show 301 - (k+1)=300 - k by omega]
 rfl
theorem Qv3 (a:QI[k]? =some mk)(c:k < 300):goK n (301 - k) k (QI,v,b)=Qbq n (300 - k) k (goT n k mk (Jj n mk) (QI,v,b)):=by
 rw[show 301 - k=(300 - k)+1 by omega,goK]
 simp only[a]
 rfl
theorem Hm (a:QI.length≤k):goK n f k (QI,v,b)=((QI,v,b),(-1, -1,true)):=by
 cases f with
 | zero=>rfl
 | succ f=>
  rw[goK]
  simp only[bD a]
theorem QmA (h:ZO s=((QI,v,b),e)):l4V s=((QI,v),b,(if 0≤e.2.1 then e.1 else 0),e.2.1,(!e.2.2&&decide (e.2.1 < 0))):=by
 unfold l4V; rw[h]
theorem He (h:ZO s=((QI,v,b),((k:Int),t,false)))(h0:0≤t):l4V s=((QI,v),b,(k:Int),t,false):=by
 rw[QmA h]
 simp[h0]
theorem UP (h:ZO s=((QI,v,b),(-1, -1,false))):l4V s=((QI,v),b,0, -1,true):=by
 rw[QmA h]; rfl
theorem QbY (h:ZO s=((QI,v,b),(-1, -1,true))):l4V s=((QI,v),b,0, -1,false):=by
 rw[QmA h]; rfl
theorem Qr4 {m:ByteArray}{n:Int}(h:QaP m n){p:Int}(h0:0≤p)(d:p < n):(0≤p∧p < m.size)∧(bAt m p=48∨bAt m p=49):=by
 obtain ⟨c,g⟩:=h
 have a:p.toNat < m.size:=by omega
 refine ⟨⟨h0,by omega⟩, ?_⟩
 have e:bAt m p=m[p.toNat]:=by unfold bAt; rw[dx m p.toNat a]; rfl
 rw[e]
 rcases c p.toNat a a with h | h
 ·exact .inl (UInt8.toNat_inj.1 h)
 ·exact .inr (UInt8.toNat_inj.1 h)
theorem Qgd {m:ByteArray}{n:Int}(h:QaP m n){ps:List Int}(d:JL ps (n - 1)):Qc8 m ps:=fun p c=>by
 obtain ⟨j,a⟩:=aM.1 c
 have:=(d j (ai.1 a).1 p a).1
 exact Qr4 h (by omega) (by omega)
theorem Qw8 (hv:XR n)(h:QaP mk n.1):∀t∈n.2,Qc8 mk t.1∧Qc8 mk t.2:=fun t a=>⟨Qgd h (hv.2.2 t a).2.1,Qgd h (hv.2.2 t a).2.2⟩
theorem Vj (d:(Jj n mk)[i]? =some t):0≤t∧t < n.2.length:=by
 obtain ⟨x,a,c,_⟩:=QoW (ah d)
 exact ⟨a,c⟩
theorem Qi3 (n:Xr)(mk:ByteArray):(Jj n mk).length≤n.2.length:=Qgu _ _ _
def LBits (l:List UInt8):Prop:=∀c∈l,c=48∨c=49
theorem LBits.set {l:List UInt8}(h:LBits l){c:UInt8}(g:c=48∨c=49)(i:Nat):LBits (l.set i c):=fun d m=>by
 rcases cu m with a | a
 ·exact h d a
 ·rw[a]; exact g
theorem LBits.clr {l:List UInt8}(h:LBits l)(ps:List Int):LBits (clr l ps):=by
 induction ps generalizing l with
 | nil=>exact h
 | cons p ps a=>exact a (h.set (.inl rfl) _)
theorem LBits.put {l c:List UInt8}(h:LBits l){ps:List Int}(a:JR l ps=some c):LBits c∧c.length=l.length:=by
 induction ps generalizing l with
 | nil=>rw[JR] at a; cases a; exact ⟨h,rfl⟩
 | cons p ps m=>
  rw[JR] at a
  split at a
  ·cases a
  ·obtain ⟨d,g⟩:=m (h.set (.inr rfl) _) a
   exact ⟨d,by rw[g,az]⟩
theorem Qqw {m:ByteArray}{n:Int}(h:QaP m n):LBits m.toList:=fun c g=>by
 rw[bw] at g
 obtain ⟨i,o,e⟩:=List.getElem_of_mem g
 have a:i < m.size:=by simpa using o
 have d:=h.1 i a a
 have l:m[i]=c:=by rw[← e]; rfl
 rw[l] at d
 rcases d with h | h
 ·exact .inl (UInt8.toNat_inj.1 h)
 ·exact .inr (UInt8.toNat_inj.1 h)
theorem QpW {l:List UInt8}{n:Int}(h:LBits l)(d:(l.length:Int)=n):QaP ⟨l.toArray⟩ n:=by
 refine ⟨fun k g c=> ?_,by rw[← d]; rfl⟩
 have a:(⟨l.toArray⟩:ByteArray)[k]∈l:=by
  show l.toArray[k]∈l
  simp
 rcases h _ a with h | h
 ·exact .inl (by rw[h]; rfl)
 ·exact .inr (by rw[h]; rfl)
theorem QeF (a:QaP mk n.1)(o:r=YE n mk t)(h:r.2=true):QaP r.1 n.1:=by
 subst o
 unfold YE at h ⊢
 cases d:n.2[t.toNat]? with
 | none=>rw[d] at h; cases h
 | some x=>
  rw[d] at h
  simp only at h ⊢
  unfold JK at h ⊢
  cases c:JR (clr mk.toList x.1) x.2 with
  | none=>rw[c] at h; cases h
  | some l=>
   obtain ⟨g,m⟩:=((Qqw a).clr x.1).put c
   refine QpW g ?_
   rw[m,QuQ,X9]
   exact a.2
theorem QnO {p:ByteArray→Prop}(h:∀m∈QI,p m)(d:p x):∀m∈QI++[x],p m:=fun m c=>by
 rcases aE.1 c with a | a
 ·exact h m a
 ·rw[aB.1 a]; exact d
theorem Qs8 (h:QI[k]? =some mk):(QI++[x])[k]? =some mk:=by
 rw[ba (ai.1 h).1]; exact h
end
theorem Qes (QI:List ByteArray)(m:ByteArray):FC Tryz.prog 359 [(false,[.dat Qm QI]),(false,[dS m])] [] 0 (Q7 (lI (Yx QI m))):=by
 refine Qt Tryz.func359 rfl rfl Tryz.ntmps359 fun A o w p B u q=> ?_
 refine w6 ?_
 refine alL 7 fun _=> ?_
 refine w4 ?_
 refine lpK QI.length (fun k=>NoneTo (fun y=>decide (y=m)) QI k) (fun k=>⟨[(1,lf (dS m)),(7,lf (.dat Qm QI)),(8,lI (QI.length:Int)),(9,lI (k:Int))],[]⟩) (NoneTo.zero) ?_ fun k _ a=> ?_
 exact wo []
 refine w4 ?_
 cases c:(decide ((k:Int) < (QI.length:Int)))
 have d:=aa c
 refine w6 ?_
 refine Qd<|fqI o ?_
 first | exact (a.no (by omega)).symm
 have d:=ab c
 refine w6 ?_
 obtain ⟨z,l⟩:=gx QI k
 refine w10 ?_
 cases g:(decide (z=m))
 have h:=aa g
 refine w6 ?_
 refine Qb ?_
 refine lK_ (a.step l ‹_›) ?_
 exact wo []
 have h:=ab g
 refine w5 ?_
 refine Qd<|fqI o ?_
 exact (a.at l ‹_›).symm
theorem Qc3 (s:QlQ)(W:StgOk s):FC Tryz.prog 250 [(true,[dI s.1.1, .dat X7 s.1.2, .dat Ql s.2.1, .dat YQ s.2.2.1,dS s.2.2.2])] [] 0 (Is (ag [.ref 0, .ref 1, .ref 2,dI ((l4V s).2.2.1),dI ((l4V s).2.2.2.1),dB ((l4V s).2.2.2.2)]) [ar 0 9 .str (((l4V s).1).1),ar 1 263 Wg (((l4V s).1).2),ar 2 263 Wg ((l4V s).2.1)]):=by
 have a6:=W.net.2.1
 refine Qt Tryz.func250 rfl rfl Tryz.ntmps250 fun O_ S a9 a1 X_ a3 a2=> ?_
 refine acG 0 0 fun _=> ?_
 refine w_ ?_
 refine xbx 0 ?_
 refine lc (xal 1 Qw4 Qdx) ?_
 refine w4 ?_
 refine lc (dBs 2 (e:= .str) Va) ?_
 refine lc (Qg Qdn ⟨_,_,rfl,(Qo rfl),rfl⟩ (au.1 rfl) rfl rfl)<|lc (Qg QdC rfl (au.1 rfl) rfl rfl) ?_
 refine lc (dBs 3 (e:=Wg) KI (hab:=by exact ⟨_,_,_,_,rfl,⟨[dI 0],[dI 0,dI 0],_,_,_,_,rfl,rfl,⟨rfl,rfl⟩,⟨[dI 0],[dI 0],_,_,_,_,rfl,rfl,⟨rfl,rfl⟩,⟨rfl,rfl⟩,rfl⟩,rfl⟩,⟨rfl,rfl⟩,rfl⟩)) ?_
 refine lc (Qg QuN ⟨_,_,rfl,(Qo rfl),⟨_,_,rfl,(Qo rfl),⟨_,_,rfl,(Evl.ev (Qp rfl)),rfl⟩⟩⟩ (au.1 rfl) rfl rfl)<|lc (xal 4 Qw4 Qdx) ?_
 refine w7 ?_
 refine AC.wk (Qn 6 (p:=4) (off:=1) 263 Wg rfl rfl (Fresh.of rfl) (nlr rfl)) ?_
 refine QL (fun K L=>∃(k:Nat) (QI:List ByteArray) (l:List (Int×Int×Int)) (y:List (Int×Int×Int)),k≤300∧K=300 - k∧(ZO s=goK s.1 (301 - k) k (QI,l,y))∧(∀m∈QI,QaP m s.1.1)∧(QI.length≤300)∧(l.length≤24*k)∧(y.length≤24*k+1)∧L=⟨[(1,lP 0 0),(2,lP 1 0),(3,lP 4 0),(4,lI (k:Int))],[bx 0 62 [dI s.1.1, .dat X7 s.1.2, .dat Ql s.2.1, .dat YQ s.2.2.1,dS s.2.2.2],bx 1 250 [.val (.slice none 0 0), .val (.slice none 0 0), .val (.slice none 0 0),dI 0,dI 0,dB false],bx 4 250 [.ref 5, .ref 7, .ref 8,dI 0,dI (-1),dB false],ar 5 9 .str QI,ar 7 263 Wg l,ar 8 263 Wg y]⟩) ⟨0,[s.2.2.2],([]:(QcT:Ty).Den),[(0,0,0)],aS _,rfl,rfl,(by intro m hm; rw[aB.1 hm]; exact W.bits),(aI rfl),(aI rfl),(aI rfl),rfl⟩ ?_ ?_
 exact wp [(5,2),(7,6),(8,3)] ⟨rfl,rfl,rfl,(Qe (by first | rfl | simp)),(Qe (by first | rfl | simp)),(Qe (by first | rfl | simp)),trivial⟩
 rintro K L ⟨k,QI,l,y,U,a5,D,X,hl,hv,hy,rfl⟩
 refine w9 ?_
 cases H:(decide ((k:Int) < (QI.length:Int)))
 have I:=aa H
 refine w8 ?_
 have e5:(0:Int)=((l4V s).2.2.1):=by
  (rw[QbY (D.trans (Hm (by omega)))]; done)
 have e6:((-1):Int)=((l4V s).2.2.2.1):=by
  (rw[QbY (D.trans (Hm (by omega)))]; done)
 have e7:(false:Bool)=((l4V s).2.2.2.2):=by
  (rw[QbY (D.trans (Hm (by omega)))]; done)
 exact fi_ [(0,5),(1,7),(2,8)] S ⟨(Qe (by (rw[QbY (D.trans (Hm (by omega)))]; done))),(Qe (by (rw[QbY (D.trans (Hm (by omega)))]; done))),(Qe (by (rw[QbY (D.trans (Hm (by omega)))]; done))),trivial⟩ (h0:=by rw[← e5,← e6,← e7] <;> rfl)
 have I:=ab H
 refine w4 ?_
 obtain ⟨mk,z⟩:=gx QI k
 have T:=X _ (ah z)
 have J:=Qw8 W.net T
 have a4:=Qi3 s.1 mk
 apply dW (i6 25 _ _ _ _ _ _ (io 31 (lf (.ept 5 1 k 0)) :: io 32 (lf (dS mk)) :: io 33 (lf (.dat QA (Jj s.1 mk))) :: i2 34 _ _ [])) [0,0,3,3,3,31,3,3,0,0,1023]
 refine z6 ?_
 refine zz (fun _ w=>ac (QE (e:= .str) (w.v rfl) (w.en 5 rfl) (w.v rfl) UF U1 rfl (by omega) (by first | omega | (simp only[az]; omega))) rfl)<|zz (fun _ w=>ac (Q3 (e:= .str) (w.v rfl) (w.n 5 rfl) z rfl U1 rfl rfl) rfl) ?_
 refine zz (fun _ w=>ac (dK (QbM s.1 mk J (by omega)).frozen QlR) rfl) ?_
 exact y2
 refine w_ ?_
 refine QL (fun K L=>∃(i:Nat) (a:List ByteArray) (g:List (Int×Int×Int)) (q:List (Int×Int×Int)),i≤(Jj s.1 mk).length∧K=(Jj s.1 mk).length - i∧(ZO s=Qbq s.1 (300 - k) k (goT s.1 k mk ((Jj s.1 mk).drop i) (a,g,q)))∧(∀m∈a,QaP m s.1.1)∧(a.length≤300)∧(a[k]? =some mk)∧(g.length≤24*k+i)∧(q.length≤24*k+1+i)∧L=⟨[(1,lP 0 0),(2,lP 1 0),(3,lP 4 0),(4,lI (k:Int)),(17,lI (k:Int)),(18,lP 4 0),(19,lP 4 0),(21,lI (QI.length:Int)),(22,lB true),(25,lP 0 0),(26,ag [dI s.1.1, .dat X7 s.1.2]),(27,lP 4 0),(28,lP 4 0),(30,lI (k:Int)),(32,lf (dS mk)),(33,lf (.dat QA (Jj s.1 mk))),(34,lI ((Jj s.1 mk).length:Int)),(35,lI (i:Int))],[bx 0 62 [dI s.1.1, .dat X7 s.1.2, .dat Ql s.2.1, .dat YQ s.2.2.1,dS s.2.2.2],bx 1 250 [.val (.slice none 0 0), .val (.slice none 0 0), .val (.slice none 0 0),dI 0,dI 0,dB false],bx 4 250 [.ref 9, .ref 10, .ref 11,dI 0,dI (-1),dB false],ar 9 9 .str a,ar 10 263 Wg g,ar 11 263 Wg q]⟩) ⟨0,QI,l,y,aS _,rfl,D.trans (Qv3 z (by omega)),X,hl,z,(by omega),(by omega),rfl⟩ ?_ ?_
 exact wo [(9,5),(10,7),(11,8)]
 rintro K L ⟨i,a,g,q,Z,a0,h,u,V,o,a7,a8,rfl⟩
 have U:=(ai.1 o).1
 refine w4 ?_
 cases A:(decide ((i:Int) < ((Jj s.1 mk).length:Int)))
 have E:=aa A
 refine w7 ?_
 refine Qb<|Q2 ⟨k+1,a,g,q,by omega,rfl,h.trans (QtB (by omega) (by omega)),u,V,(by omega),(by omega),rfl⟩ (by omega) ?_
 exact wo [(5,9),(7,10),(8,11)]
 have E:=ab A
 refine w5 ?_
 obtain ⟨d,c⟩:=gx (Jj s.1 mk) i
 refine w2 ?_
 refine alI 38 fun _=> ?_
 refine w2 ?_
 apply dW (i6 40 _ _ _ _ _ _ (io 46 (lf (.ept 9 1 k 0)) :: io 47 (lf (dS mk)) :: io 48 _ :: io 49 (PV.tup [(false,[dS ((YE s.1 mk d).1)]),(false,[dB ((YE s.1 mk d).2)])]) :: io 39 _ :: i2 50 _ _ (i2 7 _ _ []))) [0,0,3,3,3,31,3,3,255,0,0,0,2048,4096,0]
 refine z6 ?_
 refine zz (fun _ w=>ac (QE (e:= .str) (w.v rfl) (w.en 9 rfl) (w.v rfl) UF U1 rfl (by omega) (by first | omega | (simp only[az]; omega))) rfl)<|zz (fun _ w=>ac (Q3 (e:= .str) (w.v rfl) (w.n 9 rfl) o rfl U1 rfl rfl) rfl) ?_
 refine z_ ?_
 refine zz (fun _ w=>ac (dK (QeE s.1 mk d J (Vj c)) QlF) rfl) ?_
 exact y5
 refine w5 ?_
 cases Y:((YE s.1 mk d).2)
 refine w16 ?_
 have M:((k:Int):Int)=((l4V s).2.2.1):=by
  (rw[He (h.trans (Hr c rfl ‹_›)) (Vj c).1]; done)
 have N:(d:Int)=((l4V s).2.2.2.1):=by
  (rw[He (h.trans (Hr c rfl ‹_›)) (Vj c).1]; done)
 have O:(false:Bool)=((l4V s).2.2.2.2):=by
  (rw[He (h.trans (Hr c rfl ‹_›)) (Vj c).1]; done)
 exact fi_ [(0,9),(1,10),(2,11)] S ⟨(Qe (by (rw[He (h.trans (Hr c rfl ‹_›)) (Vj c).1]; done))),(Qe (by (rw[He (h.trans (Hr c rfl ‹_›)) (Vj c).1]; done))),(Qe (by (rw[He (h.trans (Hr c rfl ‹_›)) (Vj c).1]; done))),trivial⟩ (h0:=by rw[M,← N,← O] <;> rfl)
 refine w7 ?_
 refine lc (dB_ (Qes a ((YE s.1 mk d).1)) Ql1) ?_
 refine w7 ?_
 cases B:(decide ((Yx a ((YE s.1 mk d).1)) < 0))
 have F:=aa B
 refine w9 ?_
 refine lc (Qg QdC ⟨_,_,rfl,(Qo rfl),⟨_,_,rfl,(Qo rfl),⟨_,_,rfl,(Qo rfl),rfl⟩⟩⟩ (au.1 rfl) rfl rfl) ?_
 refine lc (dBs 12 (e:=Wg) KI (hab:=by exact ⟨_,_,_,_,rfl,⟨[dI (k:Int)],[dI d,dI (Yx a ((YE s.1 mk d).1))],_,_,_,_,rfl,rfl,⟨rfl,rfl⟩,⟨[dI d],[dI (Yx a ((YE s.1 mk d).1))],_,_,_,_,rfl,rfl,⟨rfl,rfl⟩,⟨rfl,rfl⟩,rfl⟩,rfl⟩,⟨rfl,rfl⟩,rfl⟩)) ?_
 refine lc (dA 13 Qh7) ?_
 refine w3 ?_
 refine Qb ?_
 refine w4 ?_
 refine Qb<|Q2 ⟨i+1,a,(g++([((k:Int),d,Yx a ((YE s.1 mk d).1))])),q,by omega,rfl,by first | exact h.trans (Qoz c rfl ‹_› ⟨by omega,rfl⟩) | exact h.trans (Qnw c rfl ‹_› (by omega) ‹_›),by first | exact u | exact QnO u (QeF (u _ (ah o)) rfl ‹_›),(by omega),by first | exact o | exact Qs8 o,(by simp only[ae,aj,aA]; omega),(by omega),rfl⟩ (by omega) ?_
 exact wp [(10,13)] ⟨rfl,rfl,rfl,rfl,(Qe (by first | rfl | simp)),rfl,trivial⟩
 have F:=ab B
 refine w9 ?_
 cases C:(decide ((a.length:Int)=300))
 have G:=aa C
 refine w14 ?_
 refine lc (dBs 14 (e:= .str) Va) ?_
 refine lc (dA 15 Js) ?_
 refine w10 ?_
 refine lc (Qg QdC ⟨_,_,rfl,(Qo rfl),⟨_,_,rfl,(Qo rfl),⟨_,_,rfl,(Qo rfl),rfl⟩⟩⟩ (au.1 rfl) rfl rfl) ?_
 refine lc (dBs 16 (e:=Wg) KI (hab:=by exact ⟨_,_,_,_,rfl,⟨[dI (k:Int)],[dI d,dI (a.length:Int)],_,_,_,_,rfl,rfl,⟨rfl,rfl⟩,⟨[dI d],[dI (a.length:Int)],_,_,_,_,rfl,rfl,⟨rfl,rfl⟩,⟨rfl,rfl⟩,rfl⟩,rfl⟩,⟨rfl,rfl⟩,rfl⟩)) ?_
 refine lc (dA 17 Qh7) ?_
 refine w10 ?_
 refine lc (Qg QdC ⟨_,_,rfl,(Qo rfl),⟨_,_,rfl,(Qo rfl),⟨_,_,rfl,(Qo rfl),rfl⟩⟩⟩ (au.1 rfl) rfl rfl) ?_
 refine lc (dBs 18 (e:=Wg) KI (hab:=by exact ⟨_,_,_,_,rfl,⟨[dI (k:Int)],[dI d,dI (a.length:Int)],_,_,_,_,rfl,rfl,⟨rfl,rfl⟩,⟨[dI d],[dI (a.length:Int)],_,_,_,_,rfl,rfl,⟨rfl,rfl⟩,⟨rfl,rfl⟩,rfl⟩,rfl⟩,⟨rfl,rfl⟩,rfl⟩)) ?_
 refine lc (dA 19 Qh7) ?_
 refine w3 ?_
 refine Qb ?_
 refine w4 ?_
 refine Qb<|Q2 ⟨i+1,(a++([(YE s.1 mk d).1])),(g++([((k:Int),d,(a.length:Int))])),(q++([((k:Int),d,(a.length:Int))])),by omega,rfl,by first | exact h.trans (Qoz c rfl ‹_› ⟨by omega,rfl⟩) | exact h.trans (Qnw c rfl ‹_› (by omega) ‹_›),by first | exact u | exact QnO u (QeF (u _ (ah o)) rfl ‹_›),(by (simp only[ae,aj,aA]; omega)),by first | exact o | exact Qs8 o,(by simp only[ae,aj,aA]; omega),(by (simp only[ae,aj,aA]; omega)),rfl⟩ (by omega) ?_
 exact wp [(9,15),(10,19),(11,17)] ⟨rfl,rfl,rfl,(Qe (by first | rfl | simp)),(Qe (by first | rfl | simp)),(Qe (by first | rfl | simp)),trivial⟩
 have G:=ab C
 refine w10 ?_
 have P:(0:Int)=((l4V s).2.2.1):=by
  (rw[UP (h.trans (UX c rfl ‹_› (by omega) ‹_›))]; done)
 have Q:((-1):Int)=((l4V s).2.2.2.1):=by
  (rw[UP (h.trans (UX c rfl ‹_› (by omega) ‹_›))]; done)
 have R:(true:Bool)=((l4V s).2.2.2.2):=by
  (rw[UP (h.trans (UX c rfl ‹_› (by omega) ‹_›))]; done)
 exact fi_ [(0,9),(1,10),(2,11)] S ⟨(Qe (by (rw[UP (h.trans (UX c rfl ‹_› (by omega) ‹_›))]; done))),(Qe (by (rw[UP (h.trans (UX c rfl ‹_› (by omega) ‹_›))]; done))),(Qe (by (rw[UP (h.trans (UX c rfl ‹_› (by omega) ‹_›))]; done))),trivial⟩ (h0:=by rw[← P,← Q,← R] <;> rfl)
end Go.Proofs.YtgpdhgadmjfokaaGreat
namespace Go.Proofs.YtgpdhgadmjfokaaGreat
open Go.RowKit
set_option maxRecDepth 100000
set_option maxHeartbeats 4000000
abbrev DMv:=Int×Int×Int
abbrev DAr:=Int×Int×Bool×Int
def QeJ (ls:List Zb)(t:Int):Zb:=(ls[t.toNat]?).getD (0,false)
theorem Qhy {ls:List Zb}{t:Int}{y:Zb}(h:ls[t.toNat]? =some y):QeJ ls t=y:=by unfold QeJ; rw[h]; rfl
def Qoj (ls:List Zb)(m:DMv):DAr:=(m.1,(QeJ ls m.2.1).1,(QeJ ls m.2.1).2,m.2.2)
def QP (ls:List Zb)(ms:List DMv):List DAr:=ms.map (Qoj ls)
def bv (l:List UInt8)(i:Nat):UInt8:=(l[i]?).getD 0
theorem Yy {l:List UInt8}{i:Nat}{c:UInt8}(h:l[i]? =some c):bv l i=c:=by unfold bv; rw[h]; rfl
def agr (vs:List UInt8)(i j:Nat):List UInt8×Bool×Bool:=
 if bv vs i=bv vs j then (vs,true,false) else if bv vs i=0 then (vs.set i (bv vs j),true,true) else if bv vs j=0 then (vs.set j (bv vs i),true,true) else (vs,false,false)
def agb (vs:List UInt8)(i:Nat)(c:UInt8):List UInt8×Bool×Bool:=
 if bv vs i=c then (vs,true,false) else if bv vs i=0 then (vs.set i c,true,true) else (vs,false,false)
section
variable {vs vs':List UInt8}{i j k:Nat}{a b c:UInt8}
theorem QsE (d:vs[i]? =some a)(e:vs[j]? =some b):agr vs i j=if a=b then (vs,true,false) else if a=0 then (vs.set i b,true,true) else if b=0 then (vs.set j a,true,true) else (vs,false,false):=by
 unfold agr; rw[Yy d,Yy e]
theorem QkL (d:vs[i]? =some a):agb vs i c=if a=c then (vs,true,false) else if a=0 then (vs.set i c,true,true) else (vs,false,false):=by
 unfold agb; rw[Yy d]
theorem Qt3 (vs:List UInt8)(i j:Nat):(agr vs i j).1.length=vs.length:=by
 unfold agr; split <;> try rfl
 split <;> try simp
 split <;> simp
theorem Qij (vs:List UInt8)(i:Nat)(c:UInt8):(agb vs i c).1.length=vs.length:=by
 unfold agb; split <;> try rfl
 split <;> simp
def Vo (vs:List UInt8):Nat:=(vs.filter fun c=>c=0).length
theorem Qta (n:Nat):Vo (List.replicate n 0)=n:=by simp[Vo]
theorem Qeu {l:List UInt8}(h:l[i]? =some 0)(d:c≠0):Vo (l.set i c)+1=Vo l:=by
 induction l generalizing i with
 | nil=>simp at h
 | cons x l e=>
  cases i with
  | zero=>
   simp only[cd,bA] at h
   subst h
   simp[Vo,d]
  | succ i=>
   have:=e (i:=i) (by simpa using h)
   simp only[Vo,cQ,de] at this ⊢
   split <;> simp_all
theorem Quz (m:i < vs.length)(o:j < vs.length):Vo (agr vs i j).1≤Vo vs∧((agr vs i j).2.2=true→Vo (agr vs i j).1 < Vo vs)∧((agr vs i j).2.1=true→(agr vs i j).2.2=false→(agr vs i j).1=vs):=by
 have d:=ak m
 have e:=ak o
 rw[QsE d e]
 split
 ·simp
 ·rename_i l
  split
  ·rename_i g
   rw[g] at d l
   have:=Qeu d (c:=vs[j]) (fun h=>l h.symm)
   simp; omega
  ·rename_i g
   split
   ·rename_i p
    rw[p] at e
    have:=Qeu e g
    simp; omega
   ·simp
theorem QnT (e:i < vs.length)(h:c≠0):Vo (agb vs i c).1≤Vo vs∧((agb vs i c).2.2=true→Vo (agb vs i c).1 < Vo vs)∧((agb vs i c).2.1=true→(agb vs i c).2.2=false→(agb vs i c).1=vs):=by
 have d:=ak e
 rw[QkL d]
 split
 ·simp
 ·split
  ·rename_i g
   rw[g] at d
   have:=Qeu d h
   simp; omega
  ·simp
end
def JV (sig:Int)(a:DAr)(vs:List UInt8):Option (List UInt8×Bool):=
 if a.2.1=sig then
  (if (agb vs a.1.toNat (if (!a.2.2.1) = true then 49 else 48)).2.1 = true ∧ (agb (agb vs a.1.toNat (if (!a.2.2.1) = true then 49 else 48)).1 a.2.2.2.toNat (if a.2.2.1 = true then 49 else 48)).2.1 = true then
   some ((agb (agb vs a.1.toNat (if (!a.2.2.1)=true then 49 else 48)).1 a.2.2.2.toNat (if a.2.2.1=true then 49 else 48)).1,(agb vs a.1.toNat (if (!a.2.2.1)=true then 49 else 48)).2.2||(agb (agb vs a.1.toNat (if (!a.2.2.1)=true then 49 else 48)).1 a.2.2.2.toNat (if a.2.2.1=true then 49 else 48)).2.2)
  else none)
 else if (agr vs a.1.toNat a.2.2.2.toNat).2.1=true then some ((agr vs a.1.toNat a.2.2.2.toNat).1,(agr vs a.1.toNat a.2.2.2.toNat).2.2) else none
def Ku (sig:Int):List DAr→List UInt8→Bool→Option (List UInt8×Bool)
 | [],vs,ch=>some (vs,ch)
 | a :: rs,vs,ch=>match JV sig a vs with
  | none=>none
  | some (vs',c)=>Ku sig rs vs' (ch||c)
def Qbo (sig:Int)(arcs:List DAr):Nat→List UInt8→Option (List UInt8)
 | 0,vs=>some vs
 | f+1,vs=>match Ku sig arcs vs false with
  | none=>none
  | some (vs',ch)=>if ch=true then Qbo sig arcs f vs' else some vs'
def QzJ (sig:Int)(arcs:List DAr)(f:Nat):Option (List UInt8×Bool)→Option (List UInt8)
 | none=>none
 | some (vs',ch)=>if ch=true then Qbo sig arcs f vs' else some vs'
def fz (c:UInt8):UInt8:=if c=0 then 48 else c
def VR (n:Nat)(arcs:List DAr)(sig:Int):List UInt8×Bool:=match Qbo sig arcs (n+1) (List.replicate n 0) with
 | none=>([],false)
 | some vs=>(vs.map fz,true)
def InR (n:Int)(a:DAr):Prop:=(0≤a.1∧a.1 < n)∧0≤a.2.2.2∧a.2.2.2 < n
section
variable {sig n:Int}{a:DAr}{vs vs':List UInt8}{arcs rs:List DAr}{ch ch' c:Bool}{f k:Nat}
theorem Qid (b:Bool):(if b=true then (49:UInt8) else 48)≠0:=by split <;> decide
theorem Qaa (v:InR vs.length a)(h:JV sig a vs=some (vs',c)):vs'.length=vs.length∧Vo vs'≤Vo vs∧(c=true→Vo vs' < Vo vs)∧(c=false→vs'=vs):=by
 obtain ⟨⟨w,x⟩,y,z⟩:=v
 unfold JV at h
 have e:=Qid (!a.2.2.1)
 have g:=Qid a.2.2.1
 generalize (if (!a.2.2.1)=true then (49:UInt8) else 48)=f0 at h e
 generalize (if a.2.2.1=true then (49:UInt8) else 48)=t0 at h g
 have l:=QnT (vs:=vs) (i:=a.1.toNat) (c:=f0) (by omega) e
 have d:=QnT (vs:=(agb vs a.1.toNat f0).1) (i:=a.2.2.2.toNat) (c:=t0) (by rw[Qij]; omega) g
 have o:=Quz (vs:=vs) (i:=a.1.toNat) (j:=a.2.2.2.toNat) (by omega) (by omega)
 have r:=Qij vs a.1.toNat f0
 have q:=Qij (agb vs a.1.toNat f0).1 a.2.2.2.toNat t0
 have s:=Qt3 vs a.1.toNat a.2.2.2.toNat
 generalize agb (agb vs a.1.toNat f0).1 a.2.2.2.toNat t0=g2 at h d q
 generalize agb vs a.1.toNat f0=g1 at h l d r q
 generalize agr vs a.1.toNat a.2.2.2.toNat=g3 at h o s
 split at h
 ·split at h
  ·rename_i m
   simp only[bA,Prod.mk.injEq] at h
   obtain ⟨rfl,rfl⟩:=h
   refine ⟨q.trans r,bl d.1 l.1,fun p=> ?_,fun p=> ?_⟩
   ·rcases Bool.or_eq_true_iff.1 p with h | h
    ·exact Nat.lt_of_le_of_lt d.1 (l.2.1 h)
    ·exact bz (d.2.1 h) l.1
   ·obtain ⟨t,u⟩:=dc.1 p
    rw[d.2.2 m.2 u,l.2.2 m.1 t]
  ·cases h
 ·split at h
  ·rename_i m
   simp only[bA,Prod.mk.injEq] at h
   obtain ⟨rfl,rfl⟩:=h
   exact ⟨s,o.1,o.2.1,o.2.2 m⟩
  ·cases h
theorem Qft {m:Nat}(o:∀a∈rs,InR m a)(d:vs.length=m)(h:Ku sig rs vs ch=some (vs',ch')):vs'.length=m∧Vo vs'≤Vo vs∧(ch'=true→ch=true∨Vo vs' < Vo vs)∧(ch'=false→vs'=vs∧ch=false):=by
 induction rs generalizing vs ch with
 | nil=>rw[Ku] at h; cases h; exact ⟨d,aO _,fun h=> .inl h,fun h=>⟨rfl,h⟩⟩
 | cons a rs z=>
  rw[Ku] at h
  cases g:JV sig a vs with
  | none=>rw[g] at h; cases h
  | some r=>
   obtain ⟨D,c1⟩:=r
   rw[g] at h
   obtain ⟨v,l,w,x⟩:=Qaa (by rw[d]; exact o a (ax ..)) g
   obtain ⟨A,p,B,C⟩:=z (fun b y=>o b (aw _ y)) (v.trans d) h
   refine ⟨A,bl p l,fun e=> ?_,fun e=> ?_⟩
   ·rcases B e with h | h
    ·rcases Bool.or_eq_true_iff.1 h with h | h
     ·exact .inl h
     ·exact .inr (Nat.lt_of_le_of_lt p (w h))
    ·exact .inr (bz h l)
   ·obtain ⟨q,s⟩:=C e
    obtain ⟨t,u⟩:=dc.1 s
    exact ⟨q.trans (x u),t⟩
theorem QbK {n:Nat}(h:Qbo sig arcs (n+1) (List.replicate n 0)=none):VR n arcs sig=([],false):=by unfold VR; rw[h]
theorem Qqd {n:Nat}(h:Qbo sig arcs (n+1) (List.replicate n 0)=some vs):VR n arcs sig=(vs.map fz,true):=by unfold VR; rw[h]
def QzN (vs:List UInt8)(k:Nat):List UInt8:=(vs.take k).map fz++vs.drop k
end
theorem Xh (s:QmB)(t:s.length≤1000000):FC Tryz.prog 195 [(false,[.dat Ql s])] [] 0 (YJ 44 Qz s):=by
 refine Qt Tryz.func195 rfl rfl Tryz.ntmps195 fun p g o h q m l=> ?_
 refine w6 ?_
 refine Qe9 (Qa rfl) Evl.val JT rfl fun r d=> ?_
 refine w_ ?_
 refine cb_ (fun _=> ?_) fun _=> ?_
 refine w2 ?_
 refine lc (dBs 0 (e:=Qz) WA) ?_
 refine w_ ?_
 refine lc (QU 1 (Qa rfl) rfl (Evl.rep (Qa rfl)) rfl JT UG (by first | omega | (simp only[ae,aC,ap,aj,aA]; omega) | (simp only[ae,bo,ap,aj,aA]; omega)) rfl (Fresh.of rfl) (nlr rfl)) ?_
 refine w2 ?_
 refine Qd<|fo_ g ?_
 rfl
 refine w3 ?_
 refine AC.wk (Wk.nilS 2 2 44 Qz rfl (Fresh.of rfl) (nlr rfl))<|Qd<|fo_ g ?_
 exact (d ‹_›).symm
end Go.Proofs.YtgpdhgadmjfokaaGreat
namespace Go.Proofs.YtgpdhgadmjfokaaGreat
open Go.RowKit
set_option maxRecDepth 100000
set_option maxHeartbeats 4000000
def YN (sig:Int)(a:DAr)(us:List UInt8):Option (List UInt8):=
 if a.2.1=sig then
  (if (bv us a.1.toNat≠63∧bv us a.1.toNat≠(if (!a.2.2.1)=true then 49 else 48))∨(bv us a.2.2.2.toNat≠63∧bv us a.2.2.2.toNat≠(if a.2.2.1=true then 49 else 48)) then none
  else some ((us.set a.1.toNat (if (!a.2.2.1)=true then 49 else 48)).set a.2.2.2.toNat (if a.2.2.1=true then 49 else 48)))
 else if bv us a.1.toNat=63 then some ((us.set a.1.toNat (bv us a.2.2.2.toNat)).set a.2.2.2.toNat (bv us a.2.2.2.toNat))
 else if bv us a.2.2.2.toNat≠63∧bv us a.2.2.2.toNat≠bv us a.1.toNat then none
 else some ((us.set a.1.toNat (bv us a.1.toNat)).set a.2.2.2.toNat (bv us a.1.toNat))
def Xj (sig:Int):List DAr→List UInt8→Option (List UInt8)
 | [],us=>some us
 | a :: rs,us=>match YN sig a us with
  | none=>none
  | some us'=>Xj sig rs us'
def WG (sig:Int)(arcs:List DAr):Nat→List UInt8→Option (List UInt8)
 | 0,us=>some us
 | f+1,us=>match Xj sig arcs us with
  | none=>none
  | some us'=>WG sig arcs f us'
def HM (sig:Int)(arcs:List DAr)(f:Nat):Option (List UInt8)→Option (List UInt8)
 | none=>none
 | some us'=>WG sig arcs f us'
def l5V (n:Nat)(arcs:List DAr)(sig:Int):ByteArray×Bool:=match WG sig arcs (n+1) (List.replicate n 63) with
 | none=>(⟨#[]⟩,false)
 | some us=>(⟨us.toArray⟩,true)
section
variable {sig:Int}{a:DAr}{us us' vs vs':List UInt8}{arcs rs:List DAr}{f k m:Nat}{cf ct x:UInt8}{ch ch':Bool}{i j:Nat}
theorem Vf (b:arcs[k]? =some a)(h:YN sig a us=some us'):Xj sig (arcs.drop k) us=Xj sig (arcs.drop (k+1)) us':=by rw[Yd b,Xj,h]
theorem Wo (b:arcs[k]? =some a)(h:YN sig a us=none):Xj sig (arcs.drop k) us=none:=by rw[Yd b,Xj,h]
theorem QpK (b:arcs.length≤k):Xj sig (arcs.drop k) us=some us:=by rw[bJ b,Xj]
theorem Qth (f:Nat)(us:List UInt8):WG sig arcs (f+1) us=HM sig arcs f (Xj sig arcs us):=by
 rw[WG]; cases Xj sig arcs us <;> rfl
theorem Vv {n:Nat}(h:WG sig arcs (n+1) (List.replicate n 63)=none):l5V n arcs sig=(⟨#[]⟩,false):=by unfold l5V; rw[h]
theorem Qim {n:Nat}(h:WG sig arcs (n+1) (List.replicate n 63)=some us):l5V n arcs sig=(⟨us.toArray⟩,true):=by unfold l5V; rw[h]
def qm (c:UInt8):UInt8:=if c=0 then 63 else c
def Kn (vs:List UInt8):Prop:=∀c∈vs,c=0∨c=48∨c=49
theorem Kn.set (h:Kn vs){c:UInt8}(e:c=0∨c=48∨c=49)(i:Nat):Kn (vs.set i c):=fun d g=>by
 rcases cu g with b | b
 ·exact h d b
 ·rw[b]; exact e
theorem Kn.at (h:Kn vs)(hi:i < vs.length):∃c,vs[i]? =some c∧(c=0∨c=48∨c=49):=⟨_,ak hi,h _ (cX hi)⟩
theorem U3 {c:UInt8}(h:vs[i]? =some c):vs.set i c=vs:=by
 apply bK
 intro j
 by_cases e:i=j
 ·subst e; rw[aZ (ai.1 h).1,h]
 ·rw[bk e]
theorem QrU (hi:vs[i]? =some cf):bv (vs.map qm) i=qm cf:=Yy (by rw[bc,hi]; rfl)
theorem Qzh (b:Bool):((if b=true then (49:UInt8) else 48)=49∧(if (!b)=true then (49:UInt8) else 48)=48)∨((if b=true then (49:UInt8) else 48)=48∧(if (!b)=true then (49:UInt8) else 48)=49):=by cases b <;> simp
theorem QuR (b:i≠j)(c:UInt8)(h:vs[j]? =some ct):(agb vs i c).1[j]? =some ct:=by
 unfold agb
 split
 ·exact h
 ·split
  ·show (vs.set i c)[j]? =_
   rw[bk b]; exact h
  ·exact h
theorem Qpj (b:Kn vs)(D:InR vs.length a)(h:a.2.1=sig→a.1≠a.2.2.2):YN sig a (vs.map qm)=(JV sig a vs).map (fun r=>r.1.map qm)∧∀vs' c,JV sig a vs=some (vs',c)→Kn vs':=by
 obtain ⟨⟨E,F⟩,G,H⟩:=D
 obtain ⟨cf,l,z⟩:=b.at (i:=a.1.toNat) (by omega)
 obtain ⟨ct,o,A⟩:=b.at (i:=a.2.2.2.toNat) (by omega)
 unfold YN JV
 rw[QrU l,QrU o]
 by_cases n:a.2.1=sig
 ·rw[if_pos n,if_pos n]
  have g:a.1.toNat≠a.2.2.2.toNat:=by have:=h n; omega
  have C:=fun c=>QuR (vs:=vs) g c o
  rw[QkL (C _),QkL l]
  have y:∀c d:UInt8,((vs.map qm).set a.1.toNat c).set a.2.2.2.toNat d=((vs.map qm).set a.2.2.2.toNat d).set a.1.toNat c:=fun c d=>List.set_comm _ _ g
  have B:∀d,(vs.set a.2.2.2.toNat d)[a.1.toNat]? =some cf:=fun d=>by rw[bk (Ne.symm g)]; exact l
  have t:(vs.map qm)[a.1.toNat]? =some (qm cf):=by rw[bc,l]; rfl
  have mt:(vs.map qm)[a.2.2.2.toNat]? =some (qm ct):=by rw[bc,o]; rfl
  have u:∀d,((vs.map qm).set a.1.toNat d)[a.2.2.2.toNat]? =some (qm ct):=fun d=>by rw[bk g]; exact mt
  have p:=U3 t
  have q:=U3 mt
  have s:=fun d=>U3 (u d)
  rcases Qzh a.2.2.1 with ⟨v,w⟩ | ⟨v,w⟩ <;> rw[v,w] <;> rcases z with rfl | rfl | rfl <;> rcases A with rfl | rfl | rfl <;> simp only[qm] at p q s ⊢ <;> simp[List.map_set,qm,p,q,s] at* <;> first | done | (refine ⟨?_, ?_⟩ <;> first | (simp_all; done) | (intros; subst_vars; first | exact (b.set (.inr (.inl rfl)) _).set (.inr (.inr rfl)) _ | exact (b.set (.inr (.inr rfl)) _).set (.inr (.inl rfl)) _ | exact b.set (.inr (.inl rfl)) _ | exact b.set (.inr (.inr rfl)) _ | exact b)) | (intros; subst_vars; first | exact (b.set (.inr (.inl rfl)) _).set (.inr (.inr rfl)) _ | exact (b.set (.inr (.inr rfl)) _).set (.inr (.inl rfl)) _ | exact b.set (.inr (.inl rfl)) _ | exact b.set (.inr (.inr rfl)) _ | exact b) | (simp_all; done)
 ·rw[if_neg n,if_neg n,QsE l o]
  have t:(vs.map qm)[a.1.toNat]? =some (qm cf):=by rw[bc,l]; rfl
  have mt:(vs.map qm)[a.2.2.2.toNat]? =some (qm ct):=by rw[bc,o]; rfl
  have p:=U3 t
  have q:=U3 mt
  have s:((vs.map qm).set a.1.toNat (qm ct)).set a.2.2.2.toNat (qm ct)=(vs.map qm).set a.1.toNat (qm ct):=by
   by_cases e:a.1.toNat=a.2.2.2.toNat
   ·rw[e,dl]
   ·exact U3 (by rw[bk e]; exact mt)
  rcases z with rfl | rfl | rfl <;> rcases A with rfl | rfl | rfl <;> simp only[qm] at p q s ⊢ <;> simp[List.map_set,qm,p,q,s] at* <;> first | done | (refine ⟨?_, ?_⟩ <;> first | (simp_all; done) | (intros; subst_vars; first | exact b.set (.inr (.inl rfl)) _ | exact b.set (.inr (.inr rfl)) _ | exact b)) | (intros; subst_vars; first | exact b.set (.inr (.inl rfl)) _ | exact b.set (.inr (.inr rfl)) _ | exact b) | (simp_all; done)
theorem Qqf (l:∀a∈rs,InR m a)(o:∀a∈rs,a.2.1=sig→a.1≠a.2.2.2)(n:Kn vs)(g:vs.length=m):Xj sig rs (vs.map qm)=(Ku sig rs vs ch).map (fun r=>r.1.map qm)∧∀vs' c,Ku sig rs vs ch=some (vs',c)→Kn vs':=by
 induction rs generalizing vs ch with
 | nil=>exact ⟨rfl,fun vs' c h=>by rw[Ku] at h; cases h; exact n⟩
 | cons a rs s=>
  obtain ⟨p,q⟩:=Qpj n (by rw[g]; exact l a (ax ..)) (o a (ax ..))
  rw[Xj,Ku,p]
  cases d:JV sig a vs with
  | none=>exact ⟨rfl,fun vs' c h=>by cases h⟩
  | some r=>
   obtain ⟨t,c1⟩:=r
   exact s (fun b e=>l b (aw _ e)) (fun b e=>o b (aw _ e)) (q _ _ d) ((Qaa (by rw[g]; exact l a (ax ..)) d).1.trans g)
theorem Qgb (h:Xj sig arcs us=some us):∀f,WG sig arcs f us=some us
 | 0=>rfl
 | f+1=>by rw[WG,h]; exact Qgb h f
theorem Qkt (e:∀a∈arcs,InR m a)(g:∀a∈arcs,a.2.1=sig→a.1≠a.2.2.2):∀{f:Nat} {vs:List UInt8},Kn vs→vs.length=m→Vo vs < f→WG sig arcs f (vs.map qm)=(Qbo sig arcs f vs).map (List.map qm)∧∀vs',Qbo sig arcs f vs=some vs'→Kn vs'
 | 0,_,_,_,h=>by omega
 | f+1,vs,hk,hl,h=>by
  obtain ⟨c,n⟩:=Qqf (ch:=false) e g hk hl
  rw[WG,Qbo,c]
  cases d:Ku sig arcs vs false with
  | none=>exact ⟨rfl,fun vs' h=>by cases h⟩
  | some r=>
   obtain ⟨l,c1⟩:=r
   obtain ⟨o,s,p,q⟩:=Qft e hl d
   cases c1 with
   | true=>
    rcases p rfl with b | b
    ·cases b
    ·have b:Vo l < Vo vs:=b
     exact Qkt e g (n _ _ d) o (show Vo l < f by omega)
   | false=>
    obtain ⟨rfl,_⟩:=q rfl
    rw[d] at c
    exact ⟨Qgb c f,fun vs' h=>by cases h; exact hk⟩
theorem Qob (vs:List UInt8)(i:Nat)(c:UInt8):agb vs i c=if bv vs i=c then (vs,true,false) else if bv vs i=0 then (vs.set i c,true,true) else (vs,false,false):=rfl
theorem Qk7 (o:a.2.1=sig)(n:a.1=a.2.2.2)(hi:a.1.toNat < vs.length):JV sig a vs=none:=by
 unfold JV
 rw[if_pos o,← n]
 have g:=Qid a.2.2.1
 have d:=Qid (!a.2.2.1)
 have c:(if (!a.2.2.1)=true then (49:UInt8) else 48)≠(if a.2.2.1=true then 49 else 48):=by cases a.2.2.1 <;> decide
 generalize (if (!a.2.2.1)=true then (49:UInt8) else 48)=f0 at d c ⊢
 generalize (if a.2.2.1=true then (49:UInt8) else 48)=t0 at g c ⊢
 rw[if_neg]
 rintro ⟨b,e⟩
 have p:bv (agb vs a.1.toNat f0).1 a.1.toNat=f0:=by
  rw[Qob] at b ⊢
  split
  ·assumption
  ·rename_i h
   rw[if_neg h] at b
   split
   ·exact Yy (aZ hi)
   ·rename_i l
    rw[if_neg l] at b
    cases b
 rw[Qob (agb vs a.1.toNat f0).1,p,if_neg c,if_neg d] at e
 cases e
theorem QmT {b:DAr}(h:∀a∈rs,InR m a)(c:vs.length=m)(e:b∈rs)(o:b.2.1=sig)(n:b.1=b.2.2.2):Ku sig rs vs ch=none:=by
 induction rs generalizing vs ch with
 | nil=>cases e
 | cons a rs p=>
  have g:=h a (ax ..)
  rw[Ku]
  cases d:JV sig a vs with
  | none=>rfl
  | some r=>
   obtain ⟨q,c1⟩:=r
   rcases aD.1 e with rfl | e
   ·have:=g.1
    rw[Qk7 o n (by omega)] at d
    cases d
   ·exact p (fun b l=>h b (aw _ l)) ((Qaa (by rw[c]; exact g) d).1.trans c) e
theorem Qqy (h:YN sig a us=some us'):us'.length=us.length:=by
 unfold YN at h
 generalize (if (!a.2.2.1)=true then (49:UInt8) else 48)=f0 at h
 generalize (if a.2.2.1=true then (49:UInt8) else 48)=t0 at h
 split at h
 ·split at h
  ·cases h
  ·cases h; simp
 ·split at h
  ·cases h; simp
  ·split at h
   ·cases h
   ·cases h; simp
theorem QfL {c:UInt8}(h:YN sig a us=some us')(g:us[i]? =some c)(h0:c≠63):us'[i]? =some c:=by
 have p:=(ai.1 g).1
 have b:∀x y:UInt8,(i=a.2.2.2.toNat→y=c)→(i=a.1.toNat→x=c)→((us.set a.1.toNat x).set a.2.2.2.toNat y)[i]? =some c:=fun x y q d=>by
  by_cases n:a.2.2.2.toNat=i
  ·rw[n,aZ (by simpa using p),q n.symm]
  ·rw[bk n]
   by_cases o:a.1.toNat=i
   ·rw[o,aZ p,d o.symm]
   ·rw[bk o]; exact g
 unfold YN at h
 generalize (if (!a.2.2.1)=true then (49:UInt8) else 48)=f0 at h
 generalize (if a.2.2.1=true then (49:UInt8) else 48)=t0 at h
 split at h
 ·split at h
  ·cases h
  ·rename_i d
   cases h
   refine b _ _ (fun e=> ?_) (fun e=> ?_)
   ·rw[← e,Yy g] at d
    exact cG fun l=>d (.inr ⟨h0,fun e=>l e.symm⟩)
   ·rw[← e,Yy g] at d
    exact cG fun l=>d (.inl ⟨h0,fun e=>l e.symm⟩)
 ·split at h
  ·rename_i d
   cases h
   refine b _ _ (fun e=> ?_) (fun e=> ?_)
   ·rw[← e,Yy g]
   ·rw[← e,Yy g] at d; exact absurd d h0
  ·split at h
   ·cases h
   ·rename_i d l
    cases h
    refine b _ _ (fun e=> ?_) (fun e=> ?_)
    ·rw[← e,Yy g] at l
     exact cG fun r=>l ⟨h0,fun e=>r e.symm⟩
    ·rw[← e,Yy g]
theorem QlE {c:UInt8}(h:Xj sig rs us=some us')(d:us[i]? =some c)(h0:c≠63):us'[i]? =some c:=by
 induction rs generalizing us with
 | nil=>rw[Xj] at h; cases h; exact d
 | cons a rs e=>
  rw[Xj] at h
  cases b:YN sig a us with
  | none=>rw[b] at h; cases h
  | some g=>rw[b] at h; exact e h (QfL b d h0)
theorem Ql6 {b:DAr}(e:b∈rs)(o:b.2.1=sig)(n:b.1=b.2.2.2)(hi:b.1.toNat < us.length)(h:Xj sig rs us=some us'):∃c,us'[b.1.toNat]? =some c∧c≠63:=by
 induction rs generalizing us with
 | nil=>cases e
 | cons a rs p=>
  rw[Xj] at h
  cases d:YN sig a us with
  | none=>rw[d] at h; cases h
  | some q=>
   rw[d] at h
   rcases aD.1 e with rfl | e
   ·have l:q[b.1.toNat]? =some (if b.2.2.1=true then 49 else 48):=by
     unfold YN at d
     rw[if_pos o] at d
     generalize (if (!b.2.2.1)=true then (49:UInt8) else 48)=f0 at d
     generalize (if b.2.2.1=true then (49:UInt8) else 48)=t0 at d ⊢
     split at d
     ·cases d
     ·cases d
      rw[← n,aZ (by simpa using hi)]
    have g:(if b.2.2.1=true then (49:UInt8) else 48)≠63:=by cases b.2.2.1 <;> decide
    exact ⟨_,QlE h l g,g⟩
   ·exact p e (by rw[Qqy d]; exact hi) h
theorem Qmv {b:DAr}{c:UInt8}(d:b∈rs)(p:b.2.1=sig)(o:b.1=b.2.2.2)(h:us[b.1.toNat]? =some c)(h0:c≠63):Xj sig rs us=none:=by
 induction rs generalizing us with
 | nil=>cases d
 | cons a rs q=>
  rw[Xj]
  rcases aD.1 d with rfl | d
  ·have:YN sig b us=none:=by
    unfold YN
    rw[if_pos p,← o,Yy h,if_pos]
    have n:(if (!b.2.2.1)=true then (49:UInt8) else 48)≠(if b.2.2.1=true then 49 else 48):=by cases b.2.2.1 <;> decide
    by_cases e:c=(if (!b.2.2.1)=true then (49:UInt8) else 48)
    ·exact .inr ⟨h0,fun l=>n (e.symm.trans l)⟩
    ·exact .inl ⟨h0,e⟩
   rw[this]
  ·cases g:YN sig a us with
   | none=>rfl
   | some r=>exact q d (QfL g h h0)
def q0 (c:UInt8):UInt8:=if c=63 then 48 else c
theorem QyT (d:Kn vs):(vs.map qm).map q0=vs.map fz:=by
 rw[dE]
 refine List.map_congr_left fun c b=> ?_
 rcases d c b with rfl | rfl | rfl <;> rfl
theorem QeK {n:Nat}(t:∀a∈arcs,InR n a):((l5V n arcs sig).2=false∧(VR n arcs sig).2=false∧l5V n arcs sig=(⟨#[]⟩,false)∧VR n arcs sig=([],false))∨∃us:List UInt8,l5V n arcs sig=(⟨us.toArray⟩,true)∧us.length=n∧VR n arcs sig=(us.map q0,true):=by
 by_cases d:∃b∈arcs,b.2.1=sig∧b.1=b.2.2.2
 ·obtain ⟨b,s,l,y⟩:=d
  have A:Qbo sig arcs (n+1) (List.replicate n 0)=none:=by rw[Qbo,QmT t (by simp) s l y]
  obtain ⟨⟨H,I⟩,_,_⟩:=t b s
  have z:WG sig arcs (n+1) (List.replicate n 63)=none:=by
   obtain ⟨u,rfl⟩:∃u,n=u+1:=⟨n - 1,by omega⟩
   rw[WG]
   cases q:Xj sig arcs (List.replicate (u+1) 63) with
   | none=>rfl
   | some G=>
    obtain ⟨c,g,p⟩:=Ql6 s l y (by simp; omega) q
    show WG sig arcs (u+1) G=none
    rw[WG,Qmv s l y g p]
  exact .inl ⟨by rw[Vv z],by rw[QbK A],Vv z,QbK A⟩
 ·have E:∀a∈arcs,a.2.1=sig→a.1≠a.2.2.2:=fun a C g p=>d ⟨a,C,g,p⟩
  obtain ⟨g,p⟩:=Qkt (f:=n+1) (vs:=List.replicate n 0) t E (fun c D=> .inl (cW D)) (by simp) (by rw[Qta]; omega)
  have e:(List.replicate n (0:UInt8)).map qm=List.replicate n 63:=by rw[List.map_replicate]; rfl
  rw[e] at g
  cases o:Qbo sig arcs (n+1) (List.replicate n 0) with
  | none=>
   rw[o] at g
   exact .inl ⟨by rw[Vv g],by rw[QbK o],Vv g,QbK o⟩
  | some vs=>
   rw[o] at g
   refine .inr ⟨vs.map qm,Qim g, ?_, ?_⟩
   ·have:∀{f:Nat} {v w:List UInt8},v.length=n→Qbo sig arcs f v=some w→w.length=n:=fun {f}=>by
     induction f with
     | zero=>intro v w l h; rw[Qbo] at h; cases h; exact l
     | succ f F=>
      intro v w l h
      rw[Qbo] at h
      cases q:Ku sig arcs v false with
      | none=>rw[q] at h; cases h
      | some r=>
       obtain ⟨J,c1⟩:=r
       rw[q] at h
       have B:=(Qft t l q).1
       cases c1 with
       | true=>exact F B h
       | false=>cases h; exact B
    rw[aC]
    exact this (by simp) o
   ·rw[Qqd o,QyT (p _ o)]
end
end Go.Proofs.YtgpdhgadmjfokaaGreat
