/- Walks over abstract states: reachability. -/
import Derived.Test.YtgpdhgadmjfokaaGreatWk
set_option linter.unusedSimpArgs false
set_option linter.unusedVariables false
set_option linter.unusedSectionVars false
namespace Go.Proofs.YtgpdhgadmjfokaaGreat
open Go.RowKit
set_option maxRecDepth 100000
set_option maxHeartbeats 4000000
abbrev RS:=List ByteArray×List (Int×Int×Int)×List (Int×Int×Int)
abbrev Qhm:=Int×Int×Bool
def Z5 (l:List ByteArray)(x:ByteArray):Int:=ZD (fun y=>decide (y=x)) l
def goT (n:YU)(k:Nat)(mk:ByteArray):List Int→RS→RS×Qhm
 | [],st=>(st,(-1, -1,true))
 | t :: ts,st=>
  if (Yd n mk t).2=false then (st,(k,t,false))
  else if 0≤Z5 st.1 (Yd n mk t).1 then goT n k mk ts (st.1,st.2.1++[((k:Int),t,Z5 st.1 (Yd n mk t).1)],st.2.2)
  else if st.1.length=300 then (st,(-1, -1,false))
  else goT n k mk ts (st.1++[(Yd n mk t).1],st.2.1++[((k:Int),t,(st.1.length:Int))],st.2.2++[((k:Int),t,(st.1.length:Int))])
def goK (n:YU):Nat→Nat→RS→RS×Qhm
 | 0,_,st=>(st,(-1, -1,true))
 | f+1,k,st=>match st.1[k]? with
  | none=>(st,(-1, -1,true))
  | some mk=>if (goT n k mk (UU n mk) st).2.2.2=true then goK n f (k+1) (goT n k mk (UU n mk) st).1 else goT n k mk (UU n mk) st
def JZ (n:YU)(f k:Nat)(r:RS×Qhm):RS×Qhm:=if r.2.2.2=true then goK n f (k+1) r.1 else r
def Zr (s:QV):RS×Qhm:=goK s.1 301 0 ([s.2.2.2],[],[((0:Int),(0:Int),(0:Int))])
def exV (s:QV):(List ByteArray×List (Int×Int×Int))×Int×Int×Bool:=(((Zr s).1.1,(Zr s).1.2.1),(Zr s).2)
def l4V (s:QV):(List ByteArray×List (Int×Int×Int))×List (Int×Int×Int)×Int×Int×Bool:=
 (((Zr s).1.1,(Zr s).1.2.1),(Zr s).1.2.2,(if 0≤(Zr s).2.2.1 then (Zr s).2.1 else 0),(Zr s).2.2.1,(!(Zr s).2.2.2&&decide ((Zr s).2.2.1 < 0)))
def Qh8:List ByteArray×List (Int×Int×Int):=([],[])
section
variable [∀s,Decidable (StgOk s)]
def Ql (s:QV):(List ByteArray×List (Int×Int×Int))×Bool:=if StgOk s∧(Zr s).2.2.2=true then (((Zr s).1.1,(Zr s).1.2.1),true) else (Qh8,false)
end
theorem QmN (l:List ByteArray)(x y:ByteArray):Z5 (l++[y]) x=if 0≤Z5 l x then Z5 l x else if y=x then (l.length:Int) else -1:=by
 unfold Z5 ZD
 rw[List.findIdx?_append]
 cases h:l.findIdx? (fun z=>decide (z=x)) with
 | some i=>simp
 | none=>
  by_cases e:y=x
  ·simp[e]
  ·simp[e]
def IdxOf (QC:List ByteArray)(idx:List (ByteArray×Int)):Prop:=∀x,ZH .str idx x=if 0≤Z5 QC x then some (Z5 QC x) else none
section
variable {QC:List ByteArray}{idx:List (ByteArray×Int)}{x:ByteArray}{v b:List (Int×Int×Int)}{n:YU}{k f i:Nat}{mk:ByteArray}{t:Int}{ts:List Int}{r:ByteArray×Bool}{j:Int}{s:QV}{e:Qhm}
theorem Qtu (h:IdxOf QC idx)(c:(ZH .str idx x).isSome=true):0≤Z5 QC x∧(ZH .str idx x).getD (Ty.zero .int)=Z5 QC x:=by
 rw[h x] at c ⊢
 by_cases a:0≤Z5 QC x
 ·rw[if_pos a]; exact ⟨a,rfl⟩
 ·rw[if_neg a] at c; cases c
theorem IdxOf.new (h:IdxOf QC idx)(a:(ZH .str idx x).isSome=false):¬0≤Z5 QC x:=by
 rw[h x] at a
 intro c
 rw[if_pos c] at a; cases a
theorem IdxOf.set (h:IdxOf QC idx)(d:(ZH .str idx x).isSome=false):IdxOf (QC++[x]) (Yx .str idx x (QC.length:Int)):=fun y=>by
 have c:=h.new d
 rw[WM,QmN,h y]
 by_cases e:x=y
 ·subst e
  rw[if_pos ((Ty.beq_iff .str x x).2 rfl),if_neg c,if_pos rfl,if_pos (Int.natCast_nonneg _)]
 ·have:Ty.beq .str x y=false:=bU.2 fun h=>e ((Ty.beq_iff .str x y).1 h)
  rw[if_neg (show¬Ty.beq .str x y=true by rw[this]; decide),if_neg e]
  by_cases a:0≤Z5 QC y
  ·rw[if_pos a,if_pos a,if_pos a]
  ·rw[if_neg a,if_neg a,if_neg (by decide)]
theorem IdxOf.one (x:ByteArray):IdxOf [x] (Yx .str ([]:List (ByteArray×Int)) x 0):=fun y=>by
 rw[WM]
 by_cases e:x=y
 ·subst e
  rw[if_pos ((Ty.beq_iff .str x x).2 rfl)]
  simp[Z5,ZD]
 ·have:Ty.beq .str x y=false:=bU.2 fun h=>e ((Ty.beq_iff .str x y).1 h)
  rw[if_neg (show¬Ty.beq .str x y=true by rw[this]; decide)]
  simp[Z5,ZD,e,ZH]
theorem KU (c:ts[i]? =some t)(a:r=Yd n mk t)(hb:r.2=false):JZ n f k (goT n k mk (ts.drop i) (QC,v,b))=((QC,v,b),((k:Int),t,false)):=by
 subst a
 rw[ZS c,goT,if_pos hb]
 rfl
theorem QjZ (d:ts[i]? =some t)(c:r=Yd n mk t)(hb:r.2=true)(a:0≤Z5 QC r.1∧j=Z5 QC r.1):JZ n f k (goT n k mk (ts.drop i) (QC,v,b))=JZ n f k (goT n k mk (ts.drop (i+1)) (QC,v++[((k:Int),t,j)],b)):=by
 subst c
 rw[ZS d,goT,if_neg (by rw[hb]; decide),if_pos a.1,a.2]
theorem VH (d:ts[i]? =some t)(c:r=Yd n mk t)(hb:r.2=true)(a:¬0≤Z5 QC r.1)(g:(QC.length:Int)=300):JZ n f k (goT n k mk (ts.drop i) (QC,v,b))=((QC,v,b),(-1, -1,false)):=by
 subst c
 rw[ZS d,goT,if_neg (by rw[hb]; decide),if_neg a,if_pos (show QC.length=300 by omega)]
 rfl
theorem QkN (d:ts[i]? =some t)(c:r=Yd n mk t)(hb:r.2=true)(a:¬0≤Z5 QC r.1)(g:¬(QC.length:Int)=300):JZ n f k (goT n k mk (ts.drop i) (QC,v,b))=JZ n f k (goT n k mk (ts.drop (i+1)) (QC++[r.1],v++[((k:Int),t,(QC.length:Int))],b++[((k:Int),t,(QC.length:Int))])):=by
 subst c
 rw[ZS d,goT,if_neg (by rw[hb]; decide),if_neg a,if_neg (show¬QC.length=300 by omega)]
theorem QpQ (hi:ts.length≤i)(a:k < 300):JZ n (300 - k) k (goT n k mk (ts.drop i) (QC,v,b))=goK n (301 - (k+1)) (k+1) (QC,v,b):=by
 rw[bD hi,goT,show 301 - (k+1)=300 - k by omega]
 rfl
theorem QrO (a:QC[k]? =some mk)(c:k < 300):goK n (301 - k) k (QC,v,b)=JZ n (300 - k) k (goT n k mk (UU n mk) (QC,v,b)):=by
 rw[show 301 - k=(300 - k)+1 by omega,goK]
 simp only[a]
 rfl
theorem KY (a:QC.length≤k):goK n f k (QC,v,b)=((QC,v,b),(-1, -1,true)):=by
 cases f with
 | zero=>rfl
 | succ f=>
  rw[goK]
  simp only[bu a]
theorem QiG (h:Zr s=((QC,v,b),e)):l4V s=((QC,v),b,(if 0≤e.2.1 then e.1 else 0),e.2.1,(!e.2.2&&decide (e.2.1 < 0))):=by
 unfold l4V; rw[h]
theorem KZ (h:Zr s=((QC,v,b),((k:Int),t,false)))(h0:0≤t):l4V s=((QC,v),b,(k:Int),t,false):=by
 rw[QiG h]
 simp[h0]
theorem V7 (h:Zr s=((QC,v,b),(-1, -1,false))):l4V s=((QC,v),b,0, -1,true):=by
 rw[QiG h]; rfl
theorem Qau (h:Zr s=((QC,v,b),(-1, -1,true))):l4V s=((QC,v),b,0, -1,false):=by
 rw[QiG h]; rfl
theorem Qm9 {m:ByteArray}{n:Int}(h:HQ m n){p:Int}(h0:0≤p)(d:p < n):(0≤p∧p < m.size)∧(bAt m p=48∨bAt m p=49):=by
 obtain ⟨c,g⟩:=h
 have a:p.toNat < m.size:=by omega
 refine ⟨⟨h0,by omega⟩, ?_⟩
 have e:bAt m p=m[p.toNat]:=by unfold bAt; rw[di m p.toNat a]; rfl
 rw[e]
 rcases c p.toNat a a with h | h
 ·exact .inl (UInt8.toNat_inj.1 h)
 ·exact .inr (UInt8.toNat_inj.1 h)
theorem Qer {m:ByteArray}{n:Int}(h:HQ m n){ps:List Int}(d:Ki ps (n - 1)):Qa0 m ps:=fun p c=>by
 obtain ⟨j,a⟩:=aJ.1 c
 have:=(d j (ae.1 a).1 p a).1
 exact Qm9 h (by omega) (by omega)
theorem QrR (hv:Xa n)(h:HQ mk n.1):∀t∈n.2,Qa0 mk t.1∧Qa0 mk t.2:=fun t a=>⟨Qer h (hv.2.2 t a).2.1,Qer h (hv.2.2 t a).2.2⟩
theorem Wq (d:(UU n mk)[i]? =some t):0≤t∧t < n.2.length:=by
 obtain ⟨x,a,c,_⟩:=Qmu (ai d)
 exact ⟨a,c⟩
theorem Qgh (n:YU)(mk:ByteArray):(UU n mk).length≤n.2.length:=QdO _ _ _
def LBits (l:List UInt8):Prop:=∀c∈l,c=48∨c=49
theorem LBits.set {l:List UInt8}(h:LBits l){c:UInt8}(g:c=48∨c=49)(i:Nat):LBits (l.set i c):=fun d m=>by
 rcases cj m with a | a
 ·exact h d a
 ·rw[a]; exact g
theorem LBits.clr {l:List UInt8}(h:LBits l)(ps:List Int):LBits (clr l ps):=by
 induction ps generalizing l with
 | nil=>exact h
 | cons p ps a=>exact a (h.set (.inl rfl) _)
theorem LBits.put {l c:List UInt8}(h:LBits l){ps:List Int}(a:U0 l ps=some c):LBits c∧c.length=l.length:=by
 induction ps generalizing l with
 | nil=>rw[U0] at a; cases a; exact ⟨h,rfl⟩
 | cons p ps m=>
  rw[U0] at a
  split at a
  ·cases a
  ·obtain ⟨d,g⟩:=m (h.set (.inr rfl) _) a
   exact ⟨d,by rw[g,ay]⟩
theorem QlP {m:ByteArray}{n:Int}(h:HQ m n):LBits m.toList:=fun c g=>by
 rw[bt] at g
 obtain ⟨i,o,e⟩:=List.getElem_of_mem g
 have a:i < m.size:=by simpa using o
 have d:=h.1 i a a
 have l:m[i]=c:=by rw[← e]; rfl
 rw[l] at d
 rcases d with h | h
 ·exact .inl (UInt8.toNat_inj.1 h)
 ·exact .inr (UInt8.toNat_inj.1 h)
theorem Qld {l:List UInt8}{n:Int}(h:LBits l)(d:(l.length:Int)=n):HQ ⟨l.toArray⟩ n:=by
 refine ⟨fun k g c=> ?_,by rw[← d]; rfl⟩
 have a:(⟨l.toArray⟩:ByteArray)[k]∈l:=by
  show l.toArray[k]∈l
  simp
 rcases h _ a with h | h
 ·exact .inl (by rw[h]; rfl)
 ·exact .inr (by rw[h]; rfl)
theorem Qc3 (a:HQ mk n.1)(o:r=Yd n mk t)(h:r.2=true):HQ r.1 n.1:=by
 subst o
 unfold Yd at h ⊢
 cases d:n.2[t.toNat]? with
 | none=>rw[d] at h; cases h
 | some x=>
  rw[d] at h
  simp only at h ⊢
  unfold U9 at h ⊢
  cases c:U0 (clr mk.toList x.1) x.2 with
  | none=>rw[c] at h; cases h
  | some l=>
   obtain ⟨g,m⟩:=((QlP a).clr x.1).put c
   refine Qld g ?_
   rw[m,QqV,X3]
   exact a.2
theorem QkJ {p:ByteArray→Prop}(h:∀m∈QC,p m)(d:p x):∀m∈QC++[x],p m:=fun m c=>by
 rcases aA.1 c with a | a
 ·exact h m a
 ·rw[az.1 a]; exact d
theorem QnG (h:QC[k]? =some mk):(QC++[x])[k]? =some mk:=by
 rw[bc (ae.1 h).1]; exact h
end
theorem Qca (QC:List ByteArray)(m:ByteArray):FC Tryz.prog 359 [(false,[.dat Qm QC]),(false,[dS m])] [] 0 (Q7 (lI (Z5 QC m))):=by
 refine Qu Tryz.func359 rfl rfl Tryz.ntmps359 fun A o w p B u q=> ?_
 refine w6 ?_
 refine alL 7 fun _=> ?_
 refine w4 ?_
 refine lpK QC.length (fun k=>NoneTo (fun y=>decide (y=m)) QC k) (fun k=>⟨[(1,lf (dS m)),(7,lf (.dat Qm QC)),(8,lI (QC.length:Int)),(9,lI (k:Int))],[]⟩) (NoneTo.zero) ?_ fun k _ a=> ?_
 exact wo []
 refine w4 ?_
 cases c:(decide ((k:Int) < (QC.length:Int)))
 have d:=aa c
 refine w6 ?_
 refine Qe<|fqI o ?_
 first | exact (a.no (by omega)).symm
 have d:=ab c
 refine w6 ?_
 obtain ⟨z,l⟩:=gx QC k
 refine w10 ?_
 cases g:(decide (z=m))
 have h:=aa g
 refine w6 ?_
 refine Qc ?_
 refine lK_ (a.step l ‹_›) ?_
 exact wo []
 have h:=ab g
 refine w5 ?_
 refine Qe<|fqI o ?_
 exact (a.at l ‹_›).symm
theorem Qbb (s:QhK)(W:StgOk s):FC Tryz.prog 250 [(true,[dI s.1.1, .dat Xr s.1.2, .dat Qj s.2.1, .dat YI s.2.2.1,dS s.2.2.2])] [] 0 (Is (ag [.ref 0, .ref 1, .ref 2,dI ((l4V s).2.2.1),dI ((l4V s).2.2.2.1),dB ((l4V s).2.2.2.2)]) [ar 0 9 .str (((l4V s).1).1),ar 1 263 Xt (((l4V s).1).2),ar 2 263 Xt ((l4V s).2.1)]):=by
 have a6:=W.net.2.1
 refine Qu Tryz.func250 rfl rfl Tryz.ntmps250 fun O_ S a9 a1 X_ a3 a2=> ?_
 refine acG 0 0 fun _=> ?_
 refine w_ ?_
 refine xbx 0 ?_
 refine lc (xal 1 QrA QbE) ?_
 refine w4 ?_
 refine lc (dBs 2 (e:= .str) WE) ?_
 refine lc (Qi QbB ⟨_,_,rfl,(Qr rfl),rfl⟩ (aq.1 rfl) rfl rfl)<|lc (Qi Qbt rfl (aq.1 rfl) rfl rfl) ?_
 refine lc (dBs 3 (e:=Xt) Ut (hab:=by exact ⟨_,_,_,_,rfl,⟨[dI 0],[dI 0,dI 0],_,_,_,_,rfl,rfl,⟨rfl,rfl⟩,⟨[dI 0],[dI 0],_,_,_,_,rfl,rfl,⟨rfl,rfl⟩,⟨rfl,rfl⟩,rfl⟩,rfl⟩,⟨rfl,rfl⟩,rfl⟩)) ?_
 refine lc (Qi Qq7 ⟨_,_,rfl,(Qr rfl),⟨_,_,rfl,(Qr rfl),⟨_,_,rfl,(Evl.ev (Qo rfl)),rfl⟩⟩⟩ (aq.1 rfl) rfl rfl)<|lc (xal 4 QrA QbE) ?_
 refine w7 ?_
 refine AC.wk (Qt 6 (p:=4) (off:=1) 263 Xt rfl rfl (Fresh.of rfl) (nlr rfl)) ?_
 refine QQ (fun K L=>∃(k:Nat) (QC:List ByteArray) (l:List (Int×Int×Int)) (y:List (Int×Int×Int)),k≤300∧K=300 - k∧(Zr s=goK s.1 (301 - k) k (QC,l,y))∧(∀m∈QC,HQ m s.1.1)∧(QC.length≤300)∧(l.length≤24*k)∧(y.length≤24*k+1)∧L=⟨[(1,lP 0 0),(2,lP 1 0),(3,lP 4 0),(4,lI (k:Int))],[bx 0 62 [dI s.1.1, .dat Xr s.1.2, .dat Qj s.2.1, .dat YI s.2.2.1,dS s.2.2.2],bx 1 250 [.val (.slice none 0 0), .val (.slice none 0 0), .val (.slice none 0 0),dI 0,dI 0,dB false],bx 4 250 [.ref 5, .ref 7, .ref 8,dI 0,dI (-1),dB false],ar 5 9 .str QC,ar 7 263 Xt l,ar 8 263 Xt y]⟩) ⟨0,[s.2.2.2],([]:(Qg9:Ty).Den),[(0,0,0)],aP _,rfl,rfl,(by intro m hm; rw[az.1 hm]; exact W.bits),(aC rfl),(aC rfl),(aC rfl),rfl⟩ ?_ ?_
 exact wp [(5,2),(7,6),(8,3)] ⟨rfl,rfl,rfl,(Qh (by first | rfl | simp)),(Qh (by first | rfl | simp)),(Qh (by first | rfl | simp)),trivial⟩
 rintro K L ⟨k,QC,l,y,U,a5,D,X,hl,hv,hy,rfl⟩
 refine w9 ?_
 cases H:(decide ((k:Int) < (QC.length:Int)))
 have I:=aa H
 refine w8 ?_
 have e5:(0:Int)=((l4V s).2.2.1):=by
  (rw[Qau (D.trans (KY (by omega)))]; done)
 have e6:((-1):Int)=((l4V s).2.2.2.1):=by
  (rw[Qau (D.trans (KY (by omega)))]; done)
 have e7:(false:Bool)=((l4V s).2.2.2.2):=by
  (rw[Qau (D.trans (KY (by omega)))]; done)
 exact fi_ [(0,5),(1,7),(2,8)] S ⟨(Qh (by (rw[Qau (D.trans (KY (by omega)))]; done))),(Qh (by (rw[Qau (D.trans (KY (by omega)))]; done))),(Qh (by (rw[Qau (D.trans (KY (by omega)))]; done))),trivial⟩ (h0:=by rw[← e5,← e6,← e7] <;> rfl)
 have I:=ab H
 refine w4 ?_
 obtain ⟨mk,z⟩:=gx QC k
 have T:=X _ (ai z)
 have J:=QrR W.net T
 have a4:=Qgh s.1 mk
 apply dW (i6 25 _ _ _ _ _ _ (io 31 (lf (.ept 5 1 k 0)) :: io 32 (lf (dS mk)) :: io 33 (lf (.dat QO (UU s.1 mk))) :: i2 34 _ _ [])) [0,0,3,3,3,31,3,3,0,0,1023]
 refine z6 ?_
 refine zz (fun _ w=>ac (QM (e:= .str) (w.v rfl) (w.en 5 rfl) (w.v rfl) QaE VX rfl (by omega) (by first | omega | (simp only[ay]; omega))) rfl)<|zz (fun _ w=>ac (Zv (e:= .str) (w.v rfl) (w.n 5 rfl) z rfl VX rfl rfl) rfl) ?_
 refine zz (fun _ w=>ac (dK (J1 s.1 mk J (by omega)).frozen QiC) rfl) ?_
 exact y2
 refine w_ ?_
 refine QQ (fun K L=>∃(i:Nat) (a:List ByteArray) (g:List (Int×Int×Int)) (q:List (Int×Int×Int)),i≤(UU s.1 mk).length∧K=(UU s.1 mk).length - i∧(Zr s=JZ s.1 (300 - k) k (goT s.1 k mk ((UU s.1 mk).drop i) (a,g,q)))∧(∀m∈a,HQ m s.1.1)∧(a.length≤300)∧(a[k]? =some mk)∧(g.length≤24*k+i)∧(q.length≤24*k+1+i)∧L=⟨[(1,lP 0 0),(2,lP 1 0),(3,lP 4 0),(4,lI (k:Int)),(17,lI (k:Int)),(18,lP 4 0),(19,lP 4 0),(21,lI (QC.length:Int)),(22,lB true),(25,lP 0 0),(26,ag [dI s.1.1, .dat Xr s.1.2]),(27,lP 4 0),(28,lP 4 0),(30,lI (k:Int)),(32,lf (dS mk)),(33,lf (.dat QO (UU s.1 mk))),(34,lI ((UU s.1 mk).length:Int)),(35,lI (i:Int))],[bx 0 62 [dI s.1.1, .dat Xr s.1.2, .dat Qj s.2.1, .dat YI s.2.2.1,dS s.2.2.2],bx 1 250 [.val (.slice none 0 0), .val (.slice none 0 0), .val (.slice none 0 0),dI 0,dI 0,dB false],bx 4 250 [.ref 9, .ref 10, .ref 11,dI 0,dI (-1),dB false],ar 9 9 .str a,ar 10 263 Xt g,ar 11 263 Xt q]⟩) ⟨0,QC,l,y,aP _,rfl,D.trans (QrO z (by omega)),X,hl,z,(by omega),(by omega),rfl⟩ ?_ ?_
 exact wo [(9,5),(10,7),(11,8)]
 rintro K L ⟨i,a,g,q,Z,a0,h,u,V,o,a7,a8,rfl⟩
 have U:=(ae.1 o).1
 refine w4 ?_
 cases A:(decide ((i:Int) < ((UU s.1 mk).length:Int)))
 have E:=aa A
 refine w7 ?_
 refine Qc<|Zs ⟨k+1,a,g,q,by omega,rfl,h.trans (QpQ (by omega) (by omega)),u,V,(by omega),(by omega),rfl⟩ (by omega) ?_
 exact wo [(5,9),(7,10),(8,11)]
 have E:=ab A
 refine w5 ?_
 obtain ⟨d,c⟩:=gx (UU s.1 mk) i
 refine w2 ?_
 refine alI 38 fun _=> ?_
 refine w2 ?_
 apply dW (i6 40 _ _ _ _ _ _ (io 46 (lf (.ept 9 1 k 0)) :: io 47 (lf (dS mk)) :: io 48 _ :: io 49 (PV.tup [(false,[dS ((Yd s.1 mk d).1)]),(false,[dB ((Yd s.1 mk d).2)])]) :: io 39 _ :: i2 50 _ _ (i2 7 _ _ []))) [0,0,3,3,3,31,3,3,255,0,0,0,2048,4096,0]
 refine z6 ?_
 refine zz (fun _ w=>ac (QM (e:= .str) (w.v rfl) (w.en 9 rfl) (w.v rfl) QaE VX rfl (by omega) (by first | omega | (simp only[ay]; omega))) rfl)<|zz (fun _ w=>ac (Zv (e:= .str) (w.v rfl) (w.n 9 rfl) o rfl VX rfl rfl) rfl) ?_
 refine z_ ?_
 refine zz (fun _ w=>ac (dK (QcW s.1 mk d J (Wq c)) Qis) rfl) ?_
 exact y5
 refine w5 ?_
 cases Y:((Yd s.1 mk d).2)
 refine w16 ?_
 have M:((k:Int):Int)=((l4V s).2.2.1):=by
  (rw[KZ (h.trans (KU c rfl ‹_›)) (Wq c).1]; done)
 have N:(d:Int)=((l4V s).2.2.2.1):=by
  (rw[KZ (h.trans (KU c rfl ‹_›)) (Wq c).1]; done)
 have O:(false:Bool)=((l4V s).2.2.2.2):=by
  (rw[KZ (h.trans (KU c rfl ‹_›)) (Wq c).1]; done)
 exact fi_ [(0,9),(1,10),(2,11)] S ⟨(Qh (by (rw[KZ (h.trans (KU c rfl ‹_›)) (Wq c).1]; done))),(Qh (by (rw[KZ (h.trans (KU c rfl ‹_›)) (Wq c).1]; done))),(Qh (by (rw[KZ (h.trans (KU c rfl ‹_›)) (Wq c).1]; done))),trivial⟩ (h0:=by rw[M,← N,← O] <;> rfl)
 refine w7 ?_
 refine lc (dB_ (Qca a ((Yd s.1 mk d).1)) Qjp) ?_
 refine w7 ?_
 cases B:(decide ((Z5 a ((Yd s.1 mk d).1)) < 0))
 have F:=aa B
 refine w9 ?_
 refine lc (Qi Qbt ⟨_,_,rfl,(Qr rfl),⟨_,_,rfl,(Qr rfl),⟨_,_,rfl,(Qr rfl),rfl⟩⟩⟩ (aq.1 rfl) rfl rfl) ?_
 refine lc (dBs 12 (e:=Xt) Ut (hab:=by exact ⟨_,_,_,_,rfl,⟨[dI (k:Int)],[dI d,dI (Z5 a ((Yd s.1 mk d).1))],_,_,_,_,rfl,rfl,⟨rfl,rfl⟩,⟨[dI d],[dI (Z5 a ((Yd s.1 mk d).1))],_,_,_,_,rfl,rfl,⟨rfl,rfl⟩,⟨rfl,rfl⟩,rfl⟩,rfl⟩,⟨rfl,rfl⟩,rfl⟩)) ?_
 refine lc (dA 13 QfL) ?_
 refine w3 ?_
 refine Qc ?_
 refine w4 ?_
 refine Qc<|Zs ⟨i+1,a,(g++([((k:Int),d,Z5 a ((Yd s.1 mk d).1))])),q,by omega,rfl,by first | exact h.trans (QjZ c rfl ‹_› ⟨by omega,rfl⟩) | exact h.trans (QkN c rfl ‹_› (by omega) ‹_›),by first | exact u | exact QkJ u (Qc3 (u _ (ai o)) rfl ‹_›),(by omega),by first | exact o | exact QnG o,(by simp only[ah,ap,aD]; omega),(by omega),rfl⟩ (by omega) ?_
 exact wp [(10,13)] ⟨rfl,rfl,rfl,rfl,(Qh (by first | rfl | simp)),rfl,trivial⟩
 have F:=ab B
 refine w9 ?_
 cases C:(decide ((a.length:Int)=300))
 have G:=aa C
 refine w14 ?_
 refine lc (dBs 14 (e:= .str) WE) ?_
 refine lc (dA 15 Ji) ?_
 refine w10 ?_
 refine lc (Qi Qbt ⟨_,_,rfl,(Qr rfl),⟨_,_,rfl,(Qr rfl),⟨_,_,rfl,(Qr rfl),rfl⟩⟩⟩ (aq.1 rfl) rfl rfl) ?_
 refine lc (dBs 16 (e:=Xt) Ut (hab:=by exact ⟨_,_,_,_,rfl,⟨[dI (k:Int)],[dI d,dI (a.length:Int)],_,_,_,_,rfl,rfl,⟨rfl,rfl⟩,⟨[dI d],[dI (a.length:Int)],_,_,_,_,rfl,rfl,⟨rfl,rfl⟩,⟨rfl,rfl⟩,rfl⟩,rfl⟩,⟨rfl,rfl⟩,rfl⟩)) ?_
 refine lc (dA 17 QfL) ?_
 refine w10 ?_
 refine lc (Qi Qbt ⟨_,_,rfl,(Qr rfl),⟨_,_,rfl,(Qr rfl),⟨_,_,rfl,(Qr rfl),rfl⟩⟩⟩ (aq.1 rfl) rfl rfl) ?_
 refine lc (dBs 18 (e:=Xt) Ut (hab:=by exact ⟨_,_,_,_,rfl,⟨[dI (k:Int)],[dI d,dI (a.length:Int)],_,_,_,_,rfl,rfl,⟨rfl,rfl⟩,⟨[dI d],[dI (a.length:Int)],_,_,_,_,rfl,rfl,⟨rfl,rfl⟩,⟨rfl,rfl⟩,rfl⟩,rfl⟩,⟨rfl,rfl⟩,rfl⟩)) ?_
 refine lc (dA 19 QfL) ?_
 refine w3 ?_
 refine Qc ?_
 refine w4 ?_
 refine Qc<|Zs ⟨i+1,(a++([(Yd s.1 mk d).1])),(g++([((k:Int),d,(a.length:Int))])),(q++([((k:Int),d,(a.length:Int))])),by omega,rfl,by first | exact h.trans (QjZ c rfl ‹_› ⟨by omega,rfl⟩) | exact h.trans (QkN c rfl ‹_› (by omega) ‹_›),by first | exact u | exact QkJ u (Qc3 (u _ (ai o)) rfl ‹_›),(by (simp only[ah,ap,aD]; omega)),by first | exact o | exact QnG o,(by simp only[ah,ap,aD]; omega),(by (simp only[ah,ap,aD]; omega)),rfl⟩ (by omega) ?_
 exact wp [(9,15),(10,19),(11,17)] ⟨rfl,rfl,rfl,(Qh (by first | rfl | simp)),(Qh (by first | rfl | simp)),(Qh (by first | rfl | simp)),trivial⟩
 have G:=ab C
 refine w10 ?_
 have P:(0:Int)=((l4V s).2.2.1):=by
  (rw[V7 (h.trans (VH c rfl ‹_› (by omega) ‹_›))]; done)
 have Q:((-1):Int)=((l4V s).2.2.2.1):=by
  (rw[V7 (h.trans (VH c rfl ‹_› (by omega) ‹_›))]; done)
 have R:(true:Bool)=((l4V s).2.2.2.2):=by
  (rw[V7 (h.trans (VH c rfl ‹_› (by omega) ‹_›))]; done)
 exact fi_ [(0,9),(1,10),(2,11)] S ⟨(Qh (by (rw[V7 (h.trans (VH c rfl ‹_› (by omega) ‹_›))]; done))),(Qh (by (rw[V7 (h.trans (VH c rfl ‹_› (by omega) ‹_›))]; done))),(Qh (by (rw[V7 (h.trans (VH c rfl ‹_› (by omega) ‹_›))]; done))),trivial⟩ (h0:=by rw[← P,← Q,← R] <;> rfl)
end Go.Proofs.YtgpdhgadmjfokaaGreat
namespace Go.Proofs.YtgpdhgadmjfokaaGreat
open Go.RowKit
set_option maxRecDepth 100000
set_option maxHeartbeats 4000000
abbrev DMv:=Int×Int×Int
abbrev DAr:=Int×Int×Bool×Int
def Qce (ls:List QZ)(t:Int):QZ:=(ls[t.toNat]?).getD (0,false)
theorem Qfn {ls:List QZ}{t:Int}{y:QZ}(h:ls[t.toNat]? =some y):Qce ls t=y:=by unfold Qce; rw[h]; rfl
def Qky (ls:List QZ)(m:DMv):DAr:=(m.1,(Qce ls m.2.1).1,(Qce ls m.2.1).2,m.2.2)
def QL (ls:List QZ)(ms:List DMv):List DAr:=ms.map (Qky ls)
def bv (l:List UInt8)(i:Nat):UInt8:=(l[i]?).getD 0
theorem Z8 {l:List UInt8}{i:Nat}{c:UInt8}(h:l[i]? =some c):bv l i=c:=by unfold bv; rw[h]; rfl
def agr (vs:List UInt8)(i j:Nat):List UInt8×Bool×Bool:=
 if bv vs i=bv vs j then (vs,true,false) else if bv vs i=0 then (vs.set i (bv vs j),true,true) else if bv vs j=0 then (vs.set j (bv vs i),true,true) else (vs,false,false)
def agb (vs:List UInt8)(i:Nat)(c:UInt8):List UInt8×Bool×Bool:=
 if bv vs i=c then (vs,true,false) else if bv vs i=0 then (vs.set i c,true,true) else (vs,false,false)
section
variable {vs vs':List UInt8}{i j k:Nat}{a b c:UInt8}
theorem Qpb (d:vs[i]? =some a)(e:vs[j]? =some b):agr vs i j=if a=b then (vs,true,false) else if a=0 then (vs.set i b,true,true) else if b=0 then (vs.set j a,true,true) else (vs,false,false):=by
 unfold agr; rw[Z8 d,Z8 e]
theorem Qib (d:vs[i]? =some a):agb vs i c=if a=c then (vs,true,false) else if a=0 then (vs.set i c,true,true) else (vs,false,false):=by
 unfold agb; rw[Z8 d]
theorem Qqn (vs:List UInt8)(i j:Nat):(agr vs i j).1.length=vs.length:=by
 unfold agr; split <;> try rfl
 split <;> try simp
 split <;> simp
theorem Qfe (vs:List UInt8)(i:Nat)(c:UInt8):(agb vs i c).1.length=vs.length:=by
 unfold agb; split <;> try rfl
 split <;> simp
def Wu (vs:List UInt8):Nat:=(vs.filter fun c=>c=0).length
theorem QoN (n:Nat):Wu (List.replicate n 0)=n:=by simp[Wu]
theorem Qct {l:List UInt8}(h:l[i]? =some 0)(d:c≠0):Wu (l.set i c)+1=Wu l:=by
 induction l generalizing i with
 | nil=>simp at h
 | cons x l e=>
  cases i with
  | zero=>
   simp only[bN,bo] at h
   subst h
   simp[Wu,d]
  | succ i=>
   have:=e (i:=i) (by simpa using h)
   simp only[Wu,cD,cX] at this ⊢
   split <;> simp_all
theorem Qq9 (m:i < vs.length)(o:j < vs.length):Wu (agr vs i j).1≤Wu vs∧((agr vs i j).2.2=true→Wu (agr vs i j).1 < Wu vs)∧((agr vs i j).2.1=true→(agr vs i j).2.2=false→(agr vs i j).1=vs):=by
 have d:=aj m
 have e:=aj o
 rw[Qpb d e]
 split
 ·simp
 ·rename_i l
  split
  ·rename_i g
   rw[g] at d l
   have:=Qct d (c:=vs[j]) (fun h=>l h.symm)
   simp; omega
  ·rename_i g
   split
   ·rename_i p
    rw[p] at e
    have:=Qct e g
    simp; omega
   ·simp
theorem Qj4 (e:i < vs.length)(h:c≠0):Wu (agb vs i c).1≤Wu vs∧((agb vs i c).2.2=true→Wu (agb vs i c).1 < Wu vs)∧((agb vs i c).2.1=true→(agb vs i c).2.2=false→(agb vs i c).1=vs):=by
 have d:=aj e
 rw[Qib d]
 split
 ·simp
 ·split
  ·rename_i g
   rw[g] at d
   have:=Qct d h
   simp; omega
  ·simp
end
def KA (sig:Int)(a:DAr)(vs:List UInt8):Option (List UInt8×Bool):=
 if a.2.1=sig then
  (if (agb vs a.1.toNat (if (!a.2.2.1) = true then 49 else 48)).2.1 = true ∧ (agb (agb vs a.1.toNat (if (!a.2.2.1) = true then 49 else 48)).1 a.2.2.2.toNat (if a.2.2.1 = true then 49 else 48)).2.1 = true then
   some ((agb (agb vs a.1.toNat (if (!a.2.2.1)=true then 49 else 48)).1 a.2.2.2.toNat (if a.2.2.1=true then 49 else 48)).1,(agb vs a.1.toNat (if (!a.2.2.1)=true then 49 else 48)).2.2||(agb (agb vs a.1.toNat (if (!a.2.2.1)=true then 49 else 48)).1 a.2.2.2.toNat (if a.2.2.1=true then 49 else 48)).2.2)
  else none)
 else if (agr vs a.1.toNat a.2.2.2.toNat).2.1=true then some ((agr vs a.1.toNat a.2.2.2.toNat).1,(agr vs a.1.toNat a.2.2.2.toNat).2.2) else none
def V0 (sig:Int):List DAr→List UInt8→Bool→Option (List UInt8×Bool)
 | [],vs,ch=>some (vs,ch)
 | a :: rs,vs,ch=>match KA sig a vs with
  | none=>none
  | some (vs',c)=>V0 sig rs vs' (ch||c)
def Hj (sig:Int)(arcs:List DAr):Nat→List UInt8→Option (List UInt8)
 | 0,vs=>some vs
 | f+1,vs=>match V0 sig arcs vs false with
  | none=>none
  | some (vs',ch)=>if ch=true then Hj sig arcs f vs' else some vs'
def QvY (sig:Int)(arcs:List DAr)(f:Nat):Option (List UInt8×Bool)→Option (List UInt8)
 | none=>none
 | some (vs',ch)=>if ch=true then Hj sig arcs f vs' else some vs'
def fz (c:UInt8):UInt8:=if c=0 then 48 else c
def WX (n:Nat)(arcs:List DAr)(sig:Int):List UInt8×Bool:=match Hj sig arcs (n+1) (List.replicate n 0) with
 | none=>([],false)
 | some vs=>(vs.map fz,true)
def InR (n:Int)(a:DAr):Prop:=(0≤a.1∧a.1 < n)∧0≤a.2.2.2∧a.2.2.2 < n
section
variable {sig n:Int}{a:DAr}{vs vs':List UInt8}{arcs rs:List DAr}{ch ch' c:Bool}{f k:Nat}
theorem Qfa (b:Bool):(if b=true then (49:UInt8) else 48)≠0:=by split <;> decide
theorem JI (v:InR vs.length a)(h:KA sig a vs=some (vs',c)):vs'.length=vs.length∧Wu vs'≤Wu vs∧(c=true→Wu vs' < Wu vs)∧(c=false→vs'=vs):=by
 obtain ⟨⟨w,x⟩,y,z⟩:=v
 unfold KA at h
 have e:=Qfa (!a.2.2.1)
 have g:=Qfa a.2.2.1
 generalize (if (!a.2.2.1)=true then (49:UInt8) else 48)=f0 at h e
 generalize (if a.2.2.1=true then (49:UInt8) else 48)=t0 at h g
 have l:=Qj4 (vs:=vs) (i:=a.1.toNat) (c:=f0) (by omega) e
 have d:=Qj4 (vs:=(agb vs a.1.toNat f0).1) (i:=a.2.2.2.toNat) (c:=t0) (by rw[Qfe]; omega) g
 have o:=Qq9 (vs:=vs) (i:=a.1.toNat) (j:=a.2.2.2.toNat) (by omega) (by omega)
 have r:=Qfe vs a.1.toNat f0
 have q:=Qfe (agb vs a.1.toNat f0).1 a.2.2.2.toNat t0
 have s:=Qqn vs a.1.toNat a.2.2.2.toNat
 generalize agb (agb vs a.1.toNat f0).1 a.2.2.2.toNat t0=g2 at h d q
 generalize agb vs a.1.toNat f0=g1 at h l d r q
 generalize agr vs a.1.toNat a.2.2.2.toNat=g3 at h o s
 split at h
 ·split at h
  ·rename_i m
   simp only[bo,Prod.mk.injEq] at h
   obtain ⟨rfl,rfl⟩:=h
   refine ⟨q.trans r,bg d.1 l.1,fun p=> ?_,fun p=> ?_⟩
   ·rcases Bool.or_eq_true_iff.1 p with h | h
    ·exact Nat.lt_of_le_of_lt d.1 (l.2.1 h)
    ·exact bn (d.2.1 h) l.1
   ·obtain ⟨t,u⟩:=cR.1 p
    rw[d.2.2 m.2 u,l.2.2 m.1 t]
  ·cases h
 ·split at h
  ·rename_i m
   simp only[bo,Prod.mk.injEq] at h
   obtain ⟨rfl,rfl⟩:=h
   exact ⟨s,o.1,o.2.1,o.2.2 m⟩
  ·cases h
theorem Qck {m:Nat}(o:∀a∈rs,InR m a)(d:vs.length=m)(h:V0 sig rs vs ch=some (vs',ch')):vs'.length=m∧Wu vs'≤Wu vs∧(ch'=true→ch=true∨Wu vs' < Wu vs)∧(ch'=false→vs'=vs∧ch=false):=by
 induction rs generalizing vs ch with
 | nil=>rw[V0] at h; cases h; exact ⟨d,aM _,fun h=> .inl h,fun h=>⟨rfl,h⟩⟩
 | cons a rs z=>
  rw[V0] at h
  cases g:KA sig a vs with
  | none=>rw[g] at h; cases h
  | some r=>
   obtain ⟨D,c1⟩:=r
   rw[g] at h
   obtain ⟨v,l,w,x⟩:=JI (by rw[d]; exact o a (ax ..)) g
   obtain ⟨A,p,B,C⟩:=z (fun b y=>o b (av _ y)) (v.trans d) h
   refine ⟨A,bg p l,fun e=> ?_,fun e=> ?_⟩
   ·rcases B e with h | h
    ·rcases Bool.or_eq_true_iff.1 h with h | h
     ·exact .inl h
     ·exact .inr (Nat.lt_of_le_of_lt p (w h))
    ·exact .inr (bn h l)
   ·obtain ⟨q,s⟩:=C e
    obtain ⟨t,u⟩:=cR.1 s
    exact ⟨q.trans (x u),t⟩
theorem Hz {n:Nat}(h:Hj sig arcs (n+1) (List.replicate n 0)=none):WX n arcs sig=([],false):=by unfold WX; rw[h]
theorem QlS {n:Nat}(h:Hj sig arcs (n+1) (List.replicate n 0)=some vs):WX n arcs sig=(vs.map fz,true):=by unfold WX; rw[h]
def Qv0 (vs:List UInt8)(k:Nat):List UInt8:=(vs.take k).map fz++vs.drop k
end
theorem YK (s:QiO)(t:s.length≤1000000):FC Tryz.prog 195 [(false,[.dat Qj s])] [] 0 (XD 44 Qz s):=by
 refine Qu Tryz.func195 rfl rfl Tryz.ntmps195 fun p g o h q m l=> ?_
 refine w6 ?_
 refine QbP (Qa rfl) Evl.val Qax rfl fun r d=> ?_
 refine w_ ?_
 refine cb_ (fun _=> ?_) fun _=> ?_
 refine w2 ?_
 refine lc (dBs 0 (e:=Qz) Ux) ?_
 refine w_ ?_
 refine lc (Zf 1 (Qa rfl) rfl (Evl.rep (Qa rfl)) rfl Qax U2 (by first | omega | (simp only[ah,aE,au,ap,aD]; omega) | (simp only[ah,bw,au,ap,aD]; omega)) rfl (Fresh.of rfl) (nlr rfl)) ?_
 refine w2 ?_
 refine Qe<|fo_ g ?_
 rfl
 refine w3 ?_
 refine AC.wk (Wk.nilS 2 2 44 Qz rfl (Fresh.of rfl) (nlr rfl))<|Qe<|fo_ g ?_
 exact (d ‹_›).symm
end Go.Proofs.YtgpdhgadmjfokaaGreat
namespace Go.Proofs.YtgpdhgadmjfokaaGreat
open Go.RowKit
set_option maxRecDepth 100000
set_option maxHeartbeats 4000000
def Yn (sig:Int)(a:DAr)(us:List UInt8):Option (List UInt8):=
 if a.2.1=sig then
  (if (bv us a.1.toNat≠63∧bv us a.1.toNat≠(if (!a.2.2.1)=true then 49 else 48))∨(bv us a.2.2.2.toNat≠63∧bv us a.2.2.2.toNat≠(if a.2.2.1=true then 49 else 48)) then none
  else some ((us.set a.1.toNat (if (!a.2.2.1)=true then 49 else 48)).set a.2.2.2.toNat (if a.2.2.1=true then 49 else 48)))
 else if bv us a.1.toNat=63 then some ((us.set a.1.toNat (bv us a.2.2.2.toNat)).set a.2.2.2.toNat (bv us a.2.2.2.toNat))
 else if bv us a.2.2.2.toNat≠63∧bv us a.2.2.2.toNat≠bv us a.1.toNat then none
 else some ((us.set a.1.toNat (bv us a.1.toNat)).set a.2.2.2.toNat (bv us a.1.toNat))
def YP (sig:Int):List DAr→List UInt8→Option (List UInt8)
 | [],us=>some us
 | a :: rs,us=>match Yn sig a us with
  | none=>none
  | some us'=>YP sig rs us'
def XY (sig:Int)(arcs:List DAr):Nat→List UInt8→Option (List UInt8)
 | 0,us=>some us
 | f+1,us=>match YP sig arcs us with
  | none=>none
  | some us'=>XY sig arcs f us'
def Jg (sig:Int)(arcs:List DAr)(f:Nat):Option (List UInt8)→Option (List UInt8)
 | none=>none
 | some us'=>XY sig arcs f us'
def l5V (n:Nat)(arcs:List DAr)(sig:Int):ByteArray×Bool:=match XY sig arcs (n+1) (List.replicate n 63) with
 | none=>(⟨#[]⟩,false)
 | some us=>(⟨us.toArray⟩,true)
section
variable {sig:Int}{a:DAr}{us us' vs vs':List UInt8}{arcs rs:List DAr}{f k m:Nat}{cf ct x:UInt8}{ch ch':Bool}{i j:Nat}
theorem Ws (b:arcs[k]? =some a)(h:Yn sig a us=some us'):YP sig (arcs.drop k) us=YP sig (arcs.drop (k+1)) us':=by rw[ZS b,YP,h]
theorem XA (b:arcs[k]? =some a)(h:Yn sig a us=none):YP sig (arcs.drop k) us=none:=by rw[ZS b,YP,h]
theorem Qmz (b:arcs.length≤k):YP sig (arcs.drop k) us=some us:=by rw[bD b,YP]
theorem Qpy (f:Nat)(us:List UInt8):XY sig arcs (f+1) us=Jg sig arcs f (YP sig arcs us):=by
 rw[XY]; cases YP sig arcs us <;> rfl
theorem WA {n:Nat}(h:XY sig arcs (n+1) (List.replicate n 63)=none):l5V n arcs sig=(⟨#[]⟩,false):=by unfold l5V; rw[h]
theorem Qff {n:Nat}(h:XY sig arcs (n+1) (List.replicate n 63)=some us):l5V n arcs sig=(⟨us.toArray⟩,true):=by unfold l5V; rw[h]
def qm (c:UInt8):UInt8:=if c=0 then 63 else c
def Kn (vs:List UInt8):Prop:=∀c∈vs,c=0∨c=48∨c=49
theorem Kn.set (h:Kn vs){c:UInt8}(e:c=0∨c=48∨c=49)(i:Nat):Kn (vs.set i c):=fun d g=>by
 rcases cj g with b | b
 ·exact h d b
 ·rw[b]; exact e
theorem Kn.at (h:Kn vs)(hi:i < vs.length):∃c,vs[i]? =some c∧(c=0∨c=48∨c=49):=⟨_,aj hi,h _ (cJ hi)⟩
theorem Ue {c:UInt8}(h:vs[i]? =some c):vs.set i c=vs:=by
 apply bF
 intro j
 by_cases e:i=j
 ·subst e; rw[aX (ae.1 h).1,h]
 ·rw[bh e]
theorem Qo5 (hi:vs[i]? =some cf):bv (vs.map qm) i=qm cf:=Z8 (by rw[aW,hi]; rfl)
theorem QvJ (b:Bool):((if b=true then (49:UInt8) else 48)=49∧(if (!b)=true then (49:UInt8) else 48)=48)∨((if b=true then (49:UInt8) else 48)=48∧(if (!b)=true then (49:UInt8) else 48)=49):=by cases b <;> simp
theorem Qp1 (b:i≠j)(c:UInt8)(h:vs[j]? =some ct):(agb vs i c).1[j]? =some ct:=by
 unfold agb
 split
 ·exact h
 ·split
  ·show (vs.set i c)[j]? =_
   rw[bh b]; exact h
  ·exact h
theorem QmA (b:Kn vs)(D:InR vs.length a)(h:a.2.1=sig→a.1≠a.2.2.2):Yn sig a (vs.map qm)=(KA sig a vs).map (fun r=>r.1.map qm)∧∀vs' c,KA sig a vs=some (vs',c)→Kn vs':=by
 obtain ⟨⟨E,F⟩,G,H⟩:=D
 obtain ⟨cf,l,z⟩:=b.at (i:=a.1.toNat) (by omega)
 obtain ⟨ct,o,A⟩:=b.at (i:=a.2.2.2.toNat) (by omega)
 unfold Yn KA
 rw[Qo5 l,Qo5 o]
 by_cases n:a.2.1=sig
 ·rw[if_pos n,if_pos n]
  have g:a.1.toNat≠a.2.2.2.toNat:=by have:=h n; omega
  have C:=fun c=>Qp1 (vs:=vs) g c o
  rw[Qib (C _),Qib l]
  have y:∀c d:UInt8,((vs.map qm).set a.1.toNat c).set a.2.2.2.toNat d=((vs.map qm).set a.2.2.2.toNat d).set a.1.toNat c:=fun c d=>List.set_comm _ _ g
  have B:∀d,(vs.set a.2.2.2.toNat d)[a.1.toNat]? =some cf:=fun d=>by rw[bh (Ne.symm g)]; exact l
  have t:(vs.map qm)[a.1.toNat]? =some (qm cf):=by rw[aW,l]; rfl
  have mt:(vs.map qm)[a.2.2.2.toNat]? =some (qm ct):=by rw[aW,o]; rfl
  have u:∀d,((vs.map qm).set a.1.toNat d)[a.2.2.2.toNat]? =some (qm ct):=fun d=>by rw[bh g]; exact mt
  have p:=Ue t
  have q:=Ue mt
  have s:=fun d=>Ue (u d)
  rcases QvJ a.2.2.1 with ⟨v,w⟩ | ⟨v,w⟩ <;> rw[v,w] <;> rcases z with rfl | rfl | rfl <;> rcases A with rfl | rfl | rfl <;> simp only[qm] at p q s ⊢ <;> simp[List.map_set,qm,p,q,s] at* <;> first | done | (refine ⟨?_, ?_⟩ <;> first | (simp_all; done) | (intros; subst_vars; first | exact (b.set (.inr (.inl rfl)) _).set (.inr (.inr rfl)) _ | exact (b.set (.inr (.inr rfl)) _).set (.inr (.inl rfl)) _ | exact b.set (.inr (.inl rfl)) _ | exact b.set (.inr (.inr rfl)) _ | exact b)) | (intros; subst_vars; first | exact (b.set (.inr (.inl rfl)) _).set (.inr (.inr rfl)) _ | exact (b.set (.inr (.inr rfl)) _).set (.inr (.inl rfl)) _ | exact b.set (.inr (.inl rfl)) _ | exact b.set (.inr (.inr rfl)) _ | exact b) | (simp_all; done)
 ·rw[if_neg n,if_neg n,Qpb l o]
  have t:(vs.map qm)[a.1.toNat]? =some (qm cf):=by rw[aW,l]; rfl
  have mt:(vs.map qm)[a.2.2.2.toNat]? =some (qm ct):=by rw[aW,o]; rfl
  have p:=Ue t
  have q:=Ue mt
  have s:((vs.map qm).set a.1.toNat (qm ct)).set a.2.2.2.toNat (qm ct)=(vs.map qm).set a.1.toNat (qm ct):=by
   by_cases e:a.1.toNat=a.2.2.2.toNat
   ·rw[e,dl]
   ·exact Ue (by rw[bh e]; exact mt)
  rcases z with rfl | rfl | rfl <;> rcases A with rfl | rfl | rfl <;> simp only[qm] at p q s ⊢ <;> simp[List.map_set,qm,p,q,s] at* <;> first | done | (refine ⟨?_, ?_⟩ <;> first | (simp_all; done) | (intros; subst_vars; first | exact b.set (.inr (.inl rfl)) _ | exact b.set (.inr (.inr rfl)) _ | exact b)) | (intros; subst_vars; first | exact b.set (.inr (.inl rfl)) _ | exact b.set (.inr (.inr rfl)) _ | exact b) | (simp_all; done)
theorem Qmy (l:∀a∈rs,InR m a)(o:∀a∈rs,a.2.1=sig→a.1≠a.2.2.2)(n:Kn vs)(g:vs.length=m):YP sig rs (vs.map qm)=(V0 sig rs vs ch).map (fun r=>r.1.map qm)∧∀vs' c,V0 sig rs vs ch=some (vs',c)→Kn vs':=by
 induction rs generalizing vs ch with
 | nil=>exact ⟨rfl,fun vs' c h=>by rw[V0] at h; cases h; exact n⟩
 | cons a rs s=>
  obtain ⟨p,q⟩:=QmA n (by rw[g]; exact l a (ax ..)) (o a (ax ..))
  rw[YP,V0,p]
  cases d:KA sig a vs with
  | none=>exact ⟨rfl,fun vs' c h=>by cases h⟩
  | some r=>
   obtain ⟨t,c1⟩:=r
   exact s (fun b e=>l b (av _ e)) (fun b e=>o b (av _ e)) (q _ _ d) ((JI (by rw[g]; exact l a (ax ..)) d).1.trans g)
theorem QdJ (h:YP sig arcs us=some us):∀f,XY sig arcs f us=some us
 | 0=>rfl
 | f+1=>by rw[XY,h]; exact QdJ h f
theorem QgR (e:∀a∈arcs,InR m a)(g:∀a∈arcs,a.2.1=sig→a.1≠a.2.2.2):∀{f:Nat} {vs:List UInt8},Kn vs→vs.length=m→Wu vs < f→XY sig arcs f (vs.map qm)=(Hj sig arcs f vs).map (List.map qm)∧∀vs',Hj sig arcs f vs=some vs'→Kn vs'
 | 0,_,_,_,h=>by omega
 | f+1,vs,hk,hl,h=>by
  obtain ⟨c,n⟩:=Qmy (ch:=false) e g hk hl
  rw[XY,Hj,c]
  cases d:V0 sig arcs vs false with
  | none=>exact ⟨rfl,fun vs' h=>by cases h⟩
  | some r=>
   obtain ⟨l,c1⟩:=r
   obtain ⟨o,s,p,q⟩:=Qck e hl d
   cases c1 with
   | true=>
    rcases p rfl with b | b
    ·cases b
    ·have b:Wu l < Wu vs:=b
     exact QgR e g (n _ _ d) o (show Wu l < f by omega)
   | false=>
    obtain ⟨rfl,_⟩:=q rfl
    rw[d] at c
    exact ⟨QdJ c f,fun vs' h=>by cases h; exact hk⟩
theorem QjY (vs:List UInt8)(i:Nat)(c:UInt8):agb vs i c=if bv vs i=c then (vs,true,false) else if bv vs i=0 then (vs.set i c,true,true) else (vs,false,false):=rfl
theorem QiD (o:a.2.1=sig)(n:a.1=a.2.2.2)(hi:a.1.toNat < vs.length):KA sig a vs=none:=by
 unfold KA
 rw[if_pos o,← n]
 have g:=Qfa a.2.2.1
 have d:=Qfa (!a.2.2.1)
 have c:(if (!a.2.2.1)=true then (49:UInt8) else 48)≠(if a.2.2.1=true then 49 else 48):=by cases a.2.2.1 <;> decide
 generalize (if (!a.2.2.1)=true then (49:UInt8) else 48)=f0 at d c ⊢
 generalize (if a.2.2.1=true then (49:UInt8) else 48)=t0 at g c ⊢
 rw[if_neg]
 rintro ⟨b,e⟩
 have p:bv (agb vs a.1.toNat f0).1 a.1.toNat=f0:=by
  rw[QjY] at b ⊢
  split
  ·assumption
  ·rename_i h
   rw[if_neg h] at b
   split
   ·exact Z8 (aX hi)
   ·rename_i l
    rw[if_neg l] at b
    cases b
 rw[QjY (agb vs a.1.toNat f0).1,p,if_neg c,if_neg d] at e
 cases e
theorem Qja {b:DAr}(h:∀a∈rs,InR m a)(c:vs.length=m)(e:b∈rs)(o:b.2.1=sig)(n:b.1=b.2.2.2):V0 sig rs vs ch=none:=by
 induction rs generalizing vs ch with
 | nil=>cases e
 | cons a rs p=>
  have g:=h a (ax ..)
  rw[V0]
  cases d:KA sig a vs with
  | none=>rfl
  | some r=>
   obtain ⟨q,c1⟩:=r
   rcases aB.1 e with rfl | e
   ·have:=g.1
    rw[QiD o n (by omega)] at d
    cases d
   ·exact p (fun b l=>h b (av _ l)) ((JI (by rw[c]; exact g) d).1.trans c) e
theorem Qlg (h:Yn sig a us=some us'):us'.length=us.length:=by
 unfold Yn at h
 generalize (if (!a.2.2.1)=true then (49:UInt8) else 48)=f0 at h
 generalize (if a.2.2.1=true then (49:UInt8) else 48)=t0 at h
 split at h
 ·split at h
  ·cases h
  ·cases h; simp
 ·split at h
  ·cases h; simp
  ·split at h
   ·cases h
   ·cases h; simp
theorem QcY {c:UInt8}(h:Yn sig a us=some us')(g:us[i]? =some c)(h0:c≠63):us'[i]? =some c:=by
 have p:=(ae.1 g).1
 have b:∀x y:UInt8,(i=a.2.2.2.toNat→y=c)→(i=a.1.toNat→x=c)→((us.set a.1.toNat x).set a.2.2.2.toNat y)[i]? =some c:=fun x y q d=>by
  by_cases n:a.2.2.2.toNat=i
  ·rw[n,aX (by simpa using p),q n.symm]
  ·rw[bh n]
   by_cases o:a.1.toNat=i
   ·rw[o,aX p,d o.symm]
   ·rw[bh o]; exact g
 unfold Yn at h
 generalize (if (!a.2.2.1)=true then (49:UInt8) else 48)=f0 at h
 generalize (if a.2.2.1=true then (49:UInt8) else 48)=t0 at h
 split at h
 ·split at h
  ·cases h
  ·rename_i d
   cases h
   refine b _ _ (fun e=> ?_) (fun e=> ?_)
   ·rw[← e,Z8 g] at d
    exact ck fun l=>d (.inr ⟨h0,fun e=>l e.symm⟩)
   ·rw[← e,Z8 g] at d
    exact ck fun l=>d (.inl ⟨h0,fun e=>l e.symm⟩)
 ·split at h
  ·rename_i d
   cases h
   refine b _ _ (fun e=> ?_) (fun e=> ?_)
   ·rw[← e,Z8 g]
   ·rw[← e,Z8 g] at d; exact absurd d h0
  ·split at h
   ·cases h
   ·rename_i d l
    cases h
    refine b _ _ (fun e=> ?_) (fun e=> ?_)
    ·rw[← e,Z8 g] at l
     exact ck fun r=>l ⟨h0,fun e=>r e.symm⟩
    ·rw[← e,Z8 g]
theorem Qho {c:UInt8}(h:YP sig rs us=some us')(d:us[i]? =some c)(h0:c≠63):us'[i]? =some c:=by
 induction rs generalizing us with
 | nil=>rw[YP] at h; cases h; exact d
 | cons a rs e=>
  rw[YP] at h
  cases b:Yn sig a us with
  | none=>rw[b] at h; cases h
  | some g=>rw[b] at h; exact e h (QcY b d h0)
theorem QhM {b:DAr}(e:b∈rs)(o:b.2.1=sig)(n:b.1=b.2.2.2)(hi:b.1.toNat < us.length)(h:YP sig rs us=some us'):∃c,us'[b.1.toNat]? =some c∧c≠63:=by
 induction rs generalizing us with
 | nil=>cases e
 | cons a rs p=>
  rw[YP] at h
  cases d:Yn sig a us with
  | none=>rw[d] at h; cases h
  | some q=>
   rw[d] at h
   rcases aB.1 e with rfl | e
   ·have l:q[b.1.toNat]? =some (if b.2.2.1=true then 49 else 48):=by
     unfold Yn at d
     rw[if_pos o] at d
     generalize (if (!b.2.2.1)=true then (49:UInt8) else 48)=f0 at d
     generalize (if b.2.2.1=true then (49:UInt8) else 48)=t0 at d ⊢
     split at d
     ·cases d
     ·cases d
      rw[← n,aX (by simpa using hi)]
    have g:(if b.2.2.1=true then (49:UInt8) else 48)≠63:=by cases b.2.2.1 <;> decide
    exact ⟨_,Qho h l g,g⟩
   ·exact p e (by rw[Qlg d]; exact hi) h
theorem Qiv {b:DAr}{c:UInt8}(d:b∈rs)(p:b.2.1=sig)(o:b.1=b.2.2.2)(h:us[b.1.toNat]? =some c)(h0:c≠63):YP sig rs us=none:=by
 induction rs generalizing us with
 | nil=>cases d
 | cons a rs q=>
  rw[YP]
  rcases aB.1 d with rfl | d
  ·have:Yn sig b us=none:=by
    unfold Yn
    rw[if_pos p,← o,Z8 h,if_pos]
    have n:(if (!b.2.2.1)=true then (49:UInt8) else 48)≠(if b.2.2.1=true then 49 else 48):=by cases b.2.2.1 <;> decide
    by_cases e:c=(if (!b.2.2.1)=true then (49:UInt8) else 48)
    ·exact .inr ⟨h0,fun l=>n (e.symm.trans l)⟩
    ·exact .inl ⟨h0,e⟩
   rw[this]
  ·cases g:Yn sig a us with
   | none=>rfl
   | some r=>exact q d (QcY g h h0)
def q0 (c:UInt8):UInt8:=if c=63 then 48 else c
theorem QuV (d:Kn vs):(vs.map qm).map q0=vs.map fz:=by
 rw[dp]
 refine List.map_congr_left fun c b=> ?_
 rcases d c b with rfl | rfl | rfl <;> rfl
theorem QcA {n:Nat}(t:∀a∈arcs,InR n a):((l5V n arcs sig).2=false∧(WX n arcs sig).2=false∧l5V n arcs sig=(⟨#[]⟩,false)∧WX n arcs sig=([],false))∨∃us:List UInt8,l5V n arcs sig=(⟨us.toArray⟩,true)∧us.length=n∧WX n arcs sig=(us.map q0,true):=by
 by_cases d:∃b∈arcs,b.2.1=sig∧b.1=b.2.2.2
 ·obtain ⟨b,s,l,y⟩:=d
  have A:Hj sig arcs (n+1) (List.replicate n 0)=none:=by rw[Hj,Qja t (by simp) s l y]
  obtain ⟨⟨H,I⟩,_,_⟩:=t b s
  have z:XY sig arcs (n+1) (List.replicate n 63)=none:=by
   obtain ⟨u,rfl⟩:∃u,n=u+1:=⟨n - 1,by omega⟩
   rw[XY]
   cases q:YP sig arcs (List.replicate (u+1) 63) with
   | none=>rfl
   | some G=>
    obtain ⟨c,g,p⟩:=QhM s l y (by simp; omega) q
    show XY sig arcs (u+1) G=none
    rw[XY,Qiv s l y g p]
  exact .inl ⟨by rw[WA z],by rw[Hz A],WA z,Hz A⟩
 ·have E:∀a∈arcs,a.2.1=sig→a.1≠a.2.2.2:=fun a C g p=>d ⟨a,C,g,p⟩
  obtain ⟨g,p⟩:=QgR (f:=n+1) (vs:=List.replicate n 0) t E (fun c D=> .inl (cH D)) (by simp) (by rw[QoN]; omega)
  have e:(List.replicate n (0:UInt8)).map qm=List.replicate n 63:=by rw[List.map_replicate]; rfl
  rw[e] at g
  cases o:Hj sig arcs (n+1) (List.replicate n 0) with
  | none=>
   rw[o] at g
   exact .inl ⟨by rw[WA g],by rw[Hz o],WA g,Hz o⟩
  | some vs=>
   rw[o] at g
   refine .inr ⟨vs.map qm,Qff g, ?_, ?_⟩
   ·have:∀{f:Nat} {v w:List UInt8},v.length=n→Hj sig arcs f v=some w→w.length=n:=fun {f}=>by
     induction f with
     | zero=>intro v w l h; rw[Hj] at h; cases h; exact l
     | succ f F=>
      intro v w l h
      rw[Hj] at h
      cases q:V0 sig arcs v false with
      | none=>rw[q] at h; cases h
      | some r=>
       obtain ⟨J,c1⟩:=r
       rw[q] at h
       have B:=(Qck t l q).1
       cases c1 with
       | true=>exact F B h
       | false=>cases h; exact B
    rw[aE]
    exact this (by simp) o
   ·rw[QlS o,QuV (p _ o)]
end
end Go.Proofs.YtgpdhgadmjfokaaGreat
