/- Walks over abstract states: reachability. -/
import Derived.Test.YtndabgcpnmeeoaaGreatMWk
set_option linter.unusedSimpArgs false
set_option linter.unusedVariables false
set_option linter.unusedSectionVars false
namespace Go.Proofs.YtndabgcpnmeeoaaGreat
open Go.RowKit
set_option maxRecDepth 100000
set_option maxHeartbeats 4000000
abbrev RS:=List ByteArray×List (Int×Int×Int)×List (Int×Int×Int)
abbrev QiE:=Int×Int×Bool
def YJ (l:List ByteArray)(x:ByteArray):Int:=ZO (fun y=>decide (y=x)) l
def goT (n:Xy)(k:Nat)(mk:ByteArray):List Int→RS→RS×QiE
 | [],st=>(st,(-1, -1,true))
 | t :: ts,st=>
  if (Yy n mk t).2=false then (st,(k,t,false))
  else if 0≤YJ st.1 (Yy n mk t).1 then goT n k mk ts (st.1,st.2.1++[((k:Int),t,YJ st.1 (Yy n mk t).1)],st.2.2)
  else if st.1.length=300 then (st,(-1, -1,false))
  else goT n k mk ts (st.1++[(Yy n mk t).1],st.2.1++[((k:Int),t,(st.1.length:Int))],st.2.2++[((k:Int),t,(st.1.length:Int))])
def goK (n:Xy):Nat→Nat→RS→RS×QiE
 | 0,_,st=>(st,(-1, -1,true))
 | f+1,k,st=>match st.1[k]? with
  | none=>(st,(-1, -1,true))
  | some mk=>if (goT n k mk (Kg n mk) st).2.2.2=true then goK n f (k+1) (goT n k mk (Kg n mk) st).1 else goT n k mk (Kg n mk) st
def Qak (n:Xy)(f k:Nat)(r:RS×QiE):RS×QiE:=if r.2.2.2=true then goK n f (k+1) r.1 else r
def ZN (s:ZK):RS×QiE:=goK s.1 301 0 ([s.2.2.2],[],[((0:Int),(0:Int),(0:Int))])
def exV (s:ZK):(List ByteArray×List (Int×Int×Int))×Int×Int×Bool:=(((ZN s).1.1,(ZN s).1.2.1),(ZN s).2)
def l4V (s:ZK):(List ByteArray×List (Int×Int×Int))×List (Int×Int×Int)×Int×Int×Bool:=
 (((ZN s).1.1,(ZN s).1.2.1),(ZN s).1.2.2,(if 0≤(ZN s).2.2.1 then (ZN s).2.1 else 0),(ZN s).2.2.1,(!(ZN s).2.2.2&&decide ((ZN s).2.2.1 < 0)))
def QkE:List ByteArray×List (Int×Int×Int):=([],[])
section
variable [∀s,Decidable (StgOk s)]
def Qm (s:ZK):(List ByteArray×List (Int×Int×Int))×Bool:=if StgOk s∧(ZN s).2.2.2=true then (((ZN s).1.1,(ZN s).1.2.1),true) else (QkE,false)
end
theorem Qnc (l:List ByteArray)(x y:ByteArray):YJ (l++[y]) x=if 0≤YJ l x then YJ l x else if y=x then (l.length:Int) else -1:=by
 unfold YJ ZO
 rw[List.findIdx?_append]
 cases h:l.findIdx? (fun z=>decide (z=x)) with
 | some i=>simp
 | none=>
  by_cases e:y=x
  ·simp[e]
  ·simp[e]
def IdxOf (QI:List ByteArray)(idx:List (ByteArray×Int)):Prop:=∀x,WS .str idx x=if 0≤YJ QI x then some (YJ QI x) else none
section
variable {QI:List ByteArray}{idx:List (ByteArray×Int)}{x:ByteArray}{v b:List (Int×Int×Int)}{n:Xy}{k f i:Nat}{mk:ByteArray}{t:Int}{ts:List Int}{r:ByteArray×Bool}{j:Int}{s:ZK}{e:QiE}
theorem IdxOf.new (h:IdxOf QI idx)(a:(WS .str idx x).isSome=false):¬0≤YJ QI x:=by
 rw[h x] at a
 intro c
 rw[if_pos c] at a; cases a
theorem IdxOf.set (h:IdxOf QI idx)(d:(WS .str idx x).isSome=false):IdxOf (QI++[x]) (Ke .str idx x (QI.length:Int)):=fun y=>by
 have c:=h.new d
 rw[Un,Qnc,h y]
 by_cases e:x=y
 ·subst e
  rw[if_pos ((Ty.beq_iff .str x x).2 rfl),if_neg c,if_pos rfl,if_pos (cE _)]
 ·have:Ty.beq .str x y=false:=cX.2 fun h=>e ((Ty.beq_iff .str x y).1 h)
  rw[if_neg (show¬Ty.beq .str x y=true by rw[this]; decide),if_neg e]
  by_cases a:0≤YJ QI y
  ·rw[if_pos a,if_pos a,if_pos a]
  ·rw[if_neg a,if_neg a,if_neg (by decide)]
theorem IdxOf.one (x:ByteArray):IdxOf [x] (Ke .str ([]:List (ByteArray×Int)) x 0):=fun y=>by
 rw[Un]
 by_cases e:x=y
 ·subst e
  rw[if_pos ((Ty.beq_iff .str x x).2 rfl)]
  simp[YJ,ZO]
 ·have:Ty.beq .str x y=false:=cX.2 fun h=>e ((Ty.beq_iff .str x y).1 h)
  rw[if_neg (show¬Ty.beq .str x y=true by rw[this]; decide)]
  simp[YJ,ZO,e,WS]
theorem Jy (c:ts[i]? =some t)(a:r=Yy n mk t)(hb:r.2=false):Qak n f k (goT n k mk (ts.drop i) (QI,v,b))=((QI,v,b),((k:Int),t,false)):=by
 subst a
 rw[Yo c,goT,if_pos hb]
 rfl
theorem QlZ (d:ts[i]? =some t)(c:r=Yy n mk t)(hb:r.2=true)(a:0≤YJ QI r.1∧j=YJ QI r.1):Qak n f k (goT n k mk (ts.drop i) (QI,v,b))=Qak n f k (goT n k mk (ts.drop (i+1)) (QI,v++[((k:Int),t,j)],b)):=by
 subst c
 rw[Yo d,goT,if_neg (by rw[hb]; decide),if_pos a.1,a.2]
theorem Ue (d:ts[i]? =some t)(c:r=Yy n mk t)(hb:r.2=true)(a:¬0≤YJ QI r.1)(g:(QI.length:Int)=300):Qak n f k (goT n k mk (ts.drop i) (QI,v,b))=((QI,v,b),(-1, -1,false)):=by
 subst c
 rw[Yo d,goT,if_neg (by rw[hb]; decide),if_neg a,if_pos (show QI.length=300 by omega)]
 rfl
theorem QlH (d:ts[i]? =some t)(c:r=Yy n mk t)(hb:r.2=true)(a:¬0≤YJ QI r.1)(g:¬(QI.length:Int)=300):Qak n f k (goT n k mk (ts.drop i) (QI,v,b))=Qak n f k (goT n k mk (ts.drop (i+1)) (QI++[r.1],v++[((k:Int),t,(QI.length:Int))],b++[((k:Int),t,(QI.length:Int))])):=by
 subst c
 rw[Yo d,goT,if_neg (by rw[hb]; decide),if_neg a,if_neg (show¬QI.length=300 by omega)]
theorem QrO (hi:ts.length≤i)(a:k < 300):Qak n (300 - k) k (goT n k mk (ts.drop i) (QI,v,b))=goK n (301 - (k+1)) (k+1) (QI,v,b):=by
 rw[bR hi,goT,show 301 - (k+1)=300 - k by omega]
 rfl
theorem QuF (a:QI[k]? =some mk)(c:k < 300):goK n (301 - k) k (QI,v,b)=Qak n (300 - k) k (goT n k mk (Kg n mk) (QI,v,b)):=by
 rw[show 301 - k=(300 - k)+1 by omega,goK]
 simp only[a]
 rfl
theorem Jf (a:QI.length≤k):goK n f k (QI,v,b)=((QI,v,b),(-1, -1,true)):=by
 cases f with
 | zero=>rfl
 | succ f=>
  rw[goK]
  simp only[bH a]
theorem Qkc (h:ZN s=((QI,v,b),e)):l4V s=((QI,v),b,(if 0≤e.2.1 then e.1 else 0),e.2.1,(!e.2.2&&decide (e.2.1 < 0))):=by
 unfold l4V; rw[h]
theorem Js (h:ZN s=((QI,v,b),((k:Int),t,false)))(h0:0≤t):l4V s=((QI,v),b,(k:Int),t,false):=by
 rw[Qkc h]
 simp[h0]
theorem Uv (h:ZN s=((QI,v,b),(-1, -1,false))):l4V s=((QI,v),b,0, -1,true):=by
 rw[Qkc h]; rfl
theorem Qa5 (h:ZN s=((QI,v,b),(-1, -1,true))):l4V s=((QI,v),b,0, -1,false):=by
 rw[Qkc h]; rfl
theorem Qqz {m:ByteArray}{n:Int}(h:HZ m n){p:Int}(h0:0≤p)(d:p < n):(0≤p∧p < m.size)∧(bAt m p=48∨bAt m p=49):=by
 obtain ⟨c,g⟩:=h
 have a:p.toNat < m.size:=by omega
 refine ⟨⟨h0,by omega⟩, ?_⟩
 have e:bAt m p=m[p.toNat]:=by unfold bAt; rw[dC m p.toNat a]; rfl
 rw[e]
 rcases c p.toNat a a with h | h
 ·exact .inl (UInt8.toNat_inj.1 h)
 ·exact .inr (UInt8.toNat_inj.1 h)
theorem Qfz {m:ByteArray}{n:Int}(h:HZ m n){ps:List Int}(d:KB ps (n - 1)):QbY m ps:=fun p c=>by
 obtain ⟨j,a⟩:=aL.1 c
 have:=(d j (ah.1 a).1 p a).1
 exact Qqz h (by omega) (by omega)
theorem Quh (hv:Y5 n)(h:HZ mk n.1):∀t∈n.2,QbY mk t.1∧QbY mk t.2:=fun t a=>⟨Qfz h (hv.2.2 t a).2.1,Qfz h (hv.2.2 t a).2.2⟩
theorem Wt (d:(Kg n mk)[i]? =some t):0≤t∧t < n.2.length:=by
 obtain ⟨x,a,c,_⟩:=QmW (ae d)
 exact ⟨a,c⟩
theorem Qio (n:Xy)(mk:ByteArray):(Kg n mk).length≤n.2.length:=Qfj _ _ _
def LBits (l:List UInt8):Prop:=∀c∈l,c=48∨c=49
theorem LBits.set {l:List UInt8}(h:LBits l){c:UInt8}(g:c=48∨c=49)(i:Nat):LBits (l.set i c):=fun d m=>by
 rcases cw m with a | a
 ·exact h d a
 ·rw[a]; exact g
theorem LBits.clr {l:List UInt8}(h:LBits l)(ps:List Int):LBits (clr l ps):=by
 induction ps generalizing l with
 | nil=>exact h
 | cons p ps a=>exact a (h.set (.inl rfl) _)
theorem LBits.put {l c:List UInt8}(h:LBits l){ps:List Int}(a:KI l ps=some c):LBits c∧c.length=l.length:=by
 induction ps generalizing l with
 | nil=>rw[KI] at a; cases a; exact ⟨h,rfl⟩
 | cons p ps m=>
  rw[KI] at a
  split at a
  ·cases a
  ·obtain ⟨d,g⟩:=m (h.set (.inr rfl) _) a
   exact ⟨d,by rw[g,ay]⟩
theorem QmQ {m:ByteArray}{n:Int}(h:HZ m n):LBits m.toList:=fun c g=>by
 rw[bp] at g
 obtain ⟨i,o,e⟩:=List.getElem_of_mem g
 have a:i < m.size:=by simpa using o
 have d:=h.1 i a a
 have l:m[i]=c:=by rw[← e]; rfl
 rw[l] at d
 rcases d with h | h
 ·exact .inl (UInt8.toNat_inj.1 h)
 ·exact .inr (UInt8.toNat_inj.1 h)
theorem QnY {l:List UInt8}{n:Int}(h:LBits l)(d:(l.length:Int)=n):HZ ⟨l.toArray⟩ n:=by
 refine ⟨fun k g c=> ?_,by rw[← d]; rfl⟩
 have a:(⟨l.toArray⟩:ByteArray)[k]∈l:=by
  show l.toArray[k]∈l
  simp
 rcases h _ a with h | h
 ·exact .inl (by rw[h]; rfl)
 ·exact .inr (by rw[h]; rfl)
theorem Qdz (a:HZ mk n.1)(o:r=Yy n mk t)(h:r.2=true):HZ r.1 n.1:=by
 subst o
 unfold Yy at h ⊢
 cases d:n.2[t.toNat]? with
 | none=>rw[d] at h; cases h
 | some x=>
  rw[d] at h
  simp only at h ⊢
  unfold Kt at h ⊢
  cases c:KI (clr mk.toList x.1) x.2 with
  | none=>rw[c] at h; cases h
  | some l=>
   obtain ⟨g,m⟩:=((QmQ a).clr x.1).put c
   refine QnY g ?_
   rw[m,Qr9,We]
   exact a.2
theorem Qlp {p:ByteArray→Prop}(h:∀m∈QI,p m)(d:p x):∀m∈QI++[x],p m:=fun m c=>by
 rcases aM.1 c with a | a
 ·exact h m a
 ·rw[aD.1 a]; exact d
theorem QoT (h:QI[k]? =some mk):(QI++[x])[k]? =some mk:=by
 rw[bo (ah.1 h).1]; exact h
end
theorem Qdv (QI:List ByteArray)(m:ByteArray):FC Tryz.prog 378 [(false,[.dat Qj QI]),(false,[dS m])] [] 0 (QX (lI (YJ QI m))):=by
 refine Qp Tryz.func378 rfl rfl Tryz.ntmps378 fun A o w p B u q=> ?_
 refine w6 ?_
 refine alL 7 fun _=> ?_
 refine w4 ?_
 refine lpK QI.length (fun k=>NoneTo (fun y=>decide (y=m)) QI k) (fun k=>⟨[(1,lf (dS m)),(7,lf (.dat Qj QI)),(8,lI (QI.length:Int)),(9,lI (k:Int))],[]⟩) (NoneTo.zero) ?_ fun k _ a=> ?_
 exact wo []
 refine w4 ?_
 cases c:(decide ((k:Int) < (QI.length:Int)))
 have d:=aa c
 refine w6 ?_
 refine Qd<|fqI o ?_
 first | exact (a.no (by omega)).symm
 have d:=ab c
 refine w6 ?_
 obtain ⟨z,l⟩:=gx QI k
 refine w10 ?_
 cases g:(decide (z=m))
 have h:=aa g
 refine w6 ?_
 refine Qb ?_
 refine lK_ (a.step l ‹_›) ?_
 exact wo []
 have h:=ab g
 refine w5 ?_
 refine Qd<|fqI o ?_
 exact (a.at l ‹_›).symm
theorem QbM (s:QjW)(W:StgOk s):FC Tryz.prog 254 [(true,[dI s.1.1, .dat XM s.1.2, .dat Ql s.2.1, .dat Y9 s.2.2.1,dS s.2.2.2])] [] 0 (Is (ag [.ref 0, .ref 1, .ref 2,dI ((l4V s).2.2.1),dI ((l4V s).2.2.2.1),dB ((l4V s).2.2.2.2)]) [ar 0 9 .str (((l4V s).1).1),ar 1 301 Z6 (((l4V s).1).2),ar 2 301 Z6 ((l4V s).2.1)]):=by
 have a6:=W.net.2.1
 refine Qp Tryz.func254 rfl rfl Tryz.ntmps254 fun O_ S a9 a1 X_ a3 a2=> ?_
 refine acG 0 0 fun _=> ?_
 refine w_ ?_
 refine xbx 0 ?_
 refine lc (xal 1 QuE Qcq) ?_
 refine w4 ?_
 refine lc (dBs 2 (e:= .str) Ya) ?_
 refine lc (Qq Qcp ⟨_,_,rfl,(Qo rfl),rfl⟩ (av.1 rfl) rfl rfl)<|lc (Qq Qb7 rfl (av.1 rfl) rfl rfl) ?_
 refine lc (dBs 3 (e:=Z6) UI (hab:=by exact ⟨_,_,_,_,rfl,⟨[dI 0],[dI 0,dI 0],_,_,_,_,rfl,rfl,⟨rfl,rfl⟩,⟨[dI 0],[dI 0],_,_,_,_,rfl,rfl,⟨rfl,rfl⟩,⟨rfl,rfl⟩,rfl⟩,rfl⟩,⟨rfl,rfl⟩,rfl⟩)) ?_
 refine lc (Qq Qse ⟨_,_,rfl,(Qo rfl),⟨_,_,rfl,(Qo rfl),⟨_,_,rfl,(Evl.ev (Qn rfl)),rfl⟩⟩⟩ (av.1 rfl) rfl rfl)<|lc (xal 4 QuE Qcq) ?_
 refine w7 ?_
 refine AC.wk (QZ 6 (p:=4) (off:=1) 301 Z6 rfl rfl (Fresh.of rfl) (nlr rfl)) ?_
 refine QD (fun K L=>∃(k:Nat) (QI:List ByteArray) (l:List (Int×Int×Int)) (y:List (Int×Int×Int)),k≤300∧K=300 - k∧(ZN s=goK s.1 (301 - k) k (QI,l,y))∧(∀m∈QI,HZ m s.1.1)∧(QI.length≤300)∧(l.length≤24*k)∧(y.length≤24*k+1)∧L=⟨[(1,lP 0 0),(2,lP 1 0),(3,lP 4 0),(4,lI (k:Int))],[bx 0 51 [dI s.1.1, .dat XM s.1.2, .dat Ql s.2.1, .dat Y9 s.2.2.1,dS s.2.2.2],bx 1 281 [.val (.slice none 0 0), .val (.slice none 0 0), .val (.slice none 0 0),dI 0,dI 0,dB false],bx 4 281 [.ref 5, .ref 7, .ref 8,dI 0,dI (-1),dB false],ar 5 9 .str QI,ar 7 301 Z6 l,ar 8 301 Z6 y]⟩) ⟨0,[s.2.2.2],([]:(QiJ:Ty).Den),[(0,0,0)],aP _,rfl,rfl,(by intro m hm; rw[aD.1 hm]; exact W.bits),(aF rfl),(aF rfl),(aF rfl),rfl⟩ ?_ ?_
 exact wp [(5,2),(7,6),(8,3)] ⟨rfl,rfl,rfl,(Qk (by first | rfl | simp)),(Qk (by first | rfl | simp)),(Qk (by first | rfl | simp)),trivial⟩
 rintro K L ⟨k,QI,l,y,U,a5,D,X,hl,hv,hy,rfl⟩
 refine w9 ?_
 cases H:(decide ((k:Int) < (QI.length:Int)))
 have I:=aa H
 refine w8 ?_
 have e5:(0:Int)=((l4V s).2.2.1):=by
  (rw[Qa5 (D.trans (Jf (by omega)))]; done)
 have e6:((-1):Int)=((l4V s).2.2.2.1):=by
  (rw[Qa5 (D.trans (Jf (by omega)))]; done)
 have e7:(false:Bool)=((l4V s).2.2.2.2):=by
  (rw[Qa5 (D.trans (Jf (by omega)))]; done)
 exact fi_ [(0,5),(1,7),(2,8)] S ⟨(Qk (by (rw[Qa5 (D.trans (Jf (by omega)))]; done))),(Qk (by (rw[Qa5 (D.trans (Jf (by omega)))]; done))),(Qk (by (rw[Qa5 (D.trans (Jf (by omega)))]; done))),trivial⟩ (h0:=by rw[← e5,← e6,← e7] <;> rfl)
 have I:=ab H
 refine w4 ?_
 obtain ⟨mk,z⟩:=gx QI k
 have T:=X _ (ae z)
 have J:=Quh W.net T
 have a4:=Qio s.1 mk
 apply dW (i6 25 _ _ _ _ _ _ (io 31 (lf (.ept 5 1 k 0)) :: io 32 (lf (dS mk)) :: io 33 (lf (.dat Qi (Kg s.1 mk))) :: i2 34 _ _ [])) [0,0,3,3,3,31,3,3,0,0,1023]
 refine z6 ?_
 refine zz (fun _ w=>ac (QY (e:= .str) (w.v rfl) (w.en 5 rfl) (w.v rfl) Qbq UA rfl (by omega) (by first | omega | (simp only[ay]; omega))) rfl)<|zz (fun _ w=>ac (ZH (e:= .str) (w.v rfl) (w.n 5 rfl) z rfl UA rfl rfl) rfl) ?_
 refine zz (fun _ w=>ac (dK (Qap s.1 mk J (by omega)).frozen Qjh) rfl) ?_
 exact y2
 refine w_ ?_
 refine QD (fun K L=>∃(i:Nat) (a:List ByteArray) (g:List (Int×Int×Int)) (q:List (Int×Int×Int)),i≤(Kg s.1 mk).length∧K=(Kg s.1 mk).length - i∧(ZN s=Qak s.1 (300 - k) k (goT s.1 k mk ((Kg s.1 mk).drop i) (a,g,q)))∧(∀m∈a,HZ m s.1.1)∧(a.length≤300)∧(a[k]? =some mk)∧(g.length≤24*k+i)∧(q.length≤24*k+1+i)∧L=⟨[(1,lP 0 0),(2,lP 1 0),(3,lP 4 0),(4,lI (k:Int)),(17,lI (k:Int)),(18,lP 4 0),(19,lP 4 0),(21,lI (QI.length:Int)),(22,lB true),(25,lP 0 0),(26,ag [dI s.1.1, .dat XM s.1.2]),(27,lP 4 0),(28,lP 4 0),(30,lI (k:Int)),(32,lf (dS mk)),(33,lf (.dat Qi (Kg s.1 mk))),(34,lI ((Kg s.1 mk).length:Int)),(35,lI (i:Int))],[bx 0 51 [dI s.1.1, .dat XM s.1.2, .dat Ql s.2.1, .dat Y9 s.2.2.1,dS s.2.2.2],bx 1 281 [.val (.slice none 0 0), .val (.slice none 0 0), .val (.slice none 0 0),dI 0,dI 0,dB false],bx 4 281 [.ref 9, .ref 10, .ref 11,dI 0,dI (-1),dB false],ar 9 9 .str a,ar 10 301 Z6 g,ar 11 301 Z6 q]⟩) ⟨0,QI,l,y,aP _,rfl,D.trans (QuF z (by omega)),X,hl,z,(by omega),(by omega),rfl⟩ ?_ ?_
 exact wo [(9,5),(10,7),(11,8)]
 rintro K L ⟨i,a,g,q,Z,a0,h,u,V,o,a7,a8,rfl⟩
 have U:=(ah.1 o).1
 refine w4 ?_
 cases A:(decide ((i:Int) < ((Kg s.1 mk).length:Int)))
 have E:=aa A
 refine w7 ?_
 refine Qb<|Zb ⟨k+1,a,g,q,by omega,rfl,h.trans (QrO (by omega) (by omega)),u,V,(by omega),(by omega),rfl⟩ (by omega) ?_
 exact wo [(5,9),(7,10),(8,11)]
 have E:=ab A
 refine w5 ?_
 obtain ⟨d,c⟩:=gx (Kg s.1 mk) i
 refine w2 ?_
 refine alI 38 fun _=> ?_
 refine w2 ?_
 apply dW (i6 40 _ _ _ _ _ _ (io 46 (lf (.ept 9 1 k 0)) :: io 47 (lf (dS mk)) :: io 48 _ :: io 49 (PV.tup [(false,[dS ((Yy s.1 mk d).1)]),(false,[dB ((Yy s.1 mk d).2)])]) :: io 39 _ :: i2 50 _ _ (i2 7 _ _ []))) [0,0,3,3,3,31,3,3,255,0,0,0,2048,4096,0]
 refine z6 ?_
 refine zz (fun _ w=>ac (QY (e:= .str) (w.v rfl) (w.en 9 rfl) (w.v rfl) Qbq UA rfl (by omega) (by first | omega | (simp only[ay]; omega))) rfl)<|zz (fun _ w=>ac (ZH (e:= .str) (w.v rfl) (w.n 9 rfl) o rfl UA rfl rfl) rfl) ?_
 refine z_ ?_
 refine zz (fun _ w=>ac (dK (Qc9 s.1 mk d J (Wt c)) Qi8) rfl) ?_
 exact y5
 refine w5 ?_
 cases Y:((Yy s.1 mk d).2)
 refine w16 ?_
 have M:((k:Int):Int)=((l4V s).2.2.1):=by
  (rw[Js (h.trans (Jy c rfl ‹_›)) (Wt c).1]; done)
 have N:(d:Int)=((l4V s).2.2.2.1):=by
  (rw[Js (h.trans (Jy c rfl ‹_›)) (Wt c).1]; done)
 have O:(false:Bool)=((l4V s).2.2.2.2):=by
  (rw[Js (h.trans (Jy c rfl ‹_›)) (Wt c).1]; done)
 exact fi_ [(0,9),(1,10),(2,11)] S ⟨(Qk (by (rw[Js (h.trans (Jy c rfl ‹_›)) (Wt c).1]; done))),(Qk (by (rw[Js (h.trans (Jy c rfl ‹_›)) (Wt c).1]; done))),(Qk (by (rw[Js (h.trans (Jy c rfl ‹_›)) (Wt c).1]; done))),trivial⟩ (h0:=by rw[M,← N,← O] <;> rfl)
 refine w7 ?_
 refine lc (dB_ (Qdv a ((Yy s.1 mk d).1)) Qj6) ?_
 refine w7 ?_
 cases B:(decide ((YJ a ((Yy s.1 mk d).1)) < 0))
 have F:=aa B
 refine w9 ?_
 refine lc (Qq Qb7 ⟨_,_,rfl,(Qo rfl),⟨_,_,rfl,(Qo rfl),⟨_,_,rfl,(Qo rfl),rfl⟩⟩⟩ (av.1 rfl) rfl rfl) ?_
 refine lc (dBs 12 (e:=Z6) UI (hab:=by exact ⟨_,_,_,_,rfl,⟨[dI (k:Int)],[dI d,dI (YJ a ((Yy s.1 mk d).1))],_,_,_,_,rfl,rfl,⟨rfl,rfl⟩,⟨[dI d],[dI (YJ a ((Yy s.1 mk d).1))],_,_,_,_,rfl,rfl,⟨rfl,rfl⟩,⟨rfl,rfl⟩,rfl⟩,rfl⟩,⟨rfl,rfl⟩,rfl⟩)) ?_
 refine lc (dA 13 Qg8) ?_
 refine w3 ?_
 refine Qb ?_
 refine w4 ?_
 refine Qb<|Zb ⟨i+1,a,(g++([((k:Int),d,YJ a ((Yy s.1 mk d).1))])),q,by omega,rfl,by first | exact h.trans (QlZ c rfl ‹_› ⟨by omega,rfl⟩) | exact h.trans (QlH c rfl ‹_› (by omega) ‹_›),by first | exact u | exact Qlp u (Qdz (u _ (ae o)) rfl ‹_›),(by omega),by first | exact o | exact QoT o,(by simp only[ai,au,aO]; omega),(by omega),rfl⟩ (by omega) ?_
 exact wp [(10,13)] ⟨rfl,rfl,rfl,rfl,(Qk (by first | rfl | simp)),rfl,trivial⟩
 have F:=ab B
 refine w9 ?_
 cases C:(decide ((a.length:Int)=300))
 have G:=aa C
 refine w14 ?_
 refine lc (dBs 14 (e:= .str) Ya) ?_
 refine lc (dA 15 VT) ?_
 refine w10 ?_
 refine lc (Qq Qb7 ⟨_,_,rfl,(Qo rfl),⟨_,_,rfl,(Qo rfl),⟨_,_,rfl,(Qo rfl),rfl⟩⟩⟩ (av.1 rfl) rfl rfl) ?_
 refine lc (dBs 16 (e:=Z6) UI (hab:=by exact ⟨_,_,_,_,rfl,⟨[dI (k:Int)],[dI d,dI (a.length:Int)],_,_,_,_,rfl,rfl,⟨rfl,rfl⟩,⟨[dI d],[dI (a.length:Int)],_,_,_,_,rfl,rfl,⟨rfl,rfl⟩,⟨rfl,rfl⟩,rfl⟩,rfl⟩,⟨rfl,rfl⟩,rfl⟩)) ?_
 refine lc (dA 17 Qg8) ?_
 refine w10 ?_
 refine lc (Qq Qb7 ⟨_,_,rfl,(Qo rfl),⟨_,_,rfl,(Qo rfl),⟨_,_,rfl,(Qo rfl),rfl⟩⟩⟩ (av.1 rfl) rfl rfl) ?_
 refine lc (dBs 18 (e:=Z6) UI (hab:=by exact ⟨_,_,_,_,rfl,⟨[dI (k:Int)],[dI d,dI (a.length:Int)],_,_,_,_,rfl,rfl,⟨rfl,rfl⟩,⟨[dI d],[dI (a.length:Int)],_,_,_,_,rfl,rfl,⟨rfl,rfl⟩,⟨rfl,rfl⟩,rfl⟩,rfl⟩,⟨rfl,rfl⟩,rfl⟩)) ?_
 refine lc (dA 19 Qg8) ?_
 refine w3 ?_
 refine Qb ?_
 refine w4 ?_
 refine Qb<|Zb ⟨i+1,(a++([(Yy s.1 mk d).1])),(g++([((k:Int),d,(a.length:Int))])),(q++([((k:Int),d,(a.length:Int))])),by omega,rfl,by first | exact h.trans (QlZ c rfl ‹_› ⟨by omega,rfl⟩) | exact h.trans (QlH c rfl ‹_› (by omega) ‹_›),by first | exact u | exact Qlp u (Qdz (u _ (ae o)) rfl ‹_›),(by (simp only[ai,au,aO]; omega)),by first | exact o | exact QoT o,(by simp only[ai,au,aO]; omega),(by (simp only[ai,au,aO]; omega)),rfl⟩ (by omega) ?_
 exact wp [(9,15),(10,19),(11,17)] ⟨rfl,rfl,rfl,(Qk (by first | rfl | simp)),(Qk (by first | rfl | simp)),(Qk (by first | rfl | simp)),trivial⟩
 have G:=ab C
 refine w10 ?_
 have P:(0:Int)=((l4V s).2.2.1):=by
  (rw[Uv (h.trans (Ue c rfl ‹_› (by omega) ‹_›))]; done)
 have Q:((-1):Int)=((l4V s).2.2.2.1):=by
  (rw[Uv (h.trans (Ue c rfl ‹_› (by omega) ‹_›))]; done)
 have R:(true:Bool)=((l4V s).2.2.2.2):=by
  (rw[Uv (h.trans (Ue c rfl ‹_› (by omega) ‹_›))]; done)
 exact fi_ [(0,9),(1,10),(2,11)] S ⟨(Qk (by (rw[Uv (h.trans (Ue c rfl ‹_› (by omega) ‹_›))]; done))),(Qk (by (rw[Uv (h.trans (Ue c rfl ‹_› (by omega) ‹_›))]; done))),(Qk (by (rw[Uv (h.trans (Ue c rfl ‹_› (by omega) ‹_›))]; done))),trivial⟩ (h0:=by rw[← P,← Q,← R] <;> rfl)
end Go.Proofs.YtndabgcpnmeeoaaGreat
namespace Go.Proofs.YtndabgcpnmeeoaaGreat
open Go.RowKit
set_option maxRecDepth 100000
set_option maxHeartbeats 4000000
abbrev DMv:=Int×Int×Int
abbrev DAr:=Int×Int×Bool×Int
def QdK (ls:List Z3)(t:Int):Z3:=(ls[t.toNat]?).getD (0,false)
theorem Qgd {ls:List Z3}{t:Int}{y:Z3}(h:ls[t.toNat]? =some y):QdK ls t=y:=by unfold QdK; rw[h]; rfl
def Ql1 (ls:List Z3)(m:DMv):DAr:=(m.1,(QdK ls m.2.1).1,(QdK ls m.2.1).2,m.2.2)
def QQ (ls:List Z3)(ms:List DMv):List DAr:=ms.map (Ql1 ls)
def bv (l:List UInt8)(i:Nat):UInt8:=(l[i]?).getD 0
theorem Yu {l:List UInt8}{i:Nat}{c:UInt8}(h:l[i]? =some c):bv l i=c:=by unfold bv; rw[h]; rfl
def agr (vs:List UInt8)(i j:Nat):List UInt8×Bool×Bool:=
 if bv vs i=bv vs j then (vs,true,false) else if bv vs i=0 then (vs.set i (bv vs j),true,true) else if bv vs j=0 then (vs.set j (bv vs i),true,true) else (vs,false,false)
def agb (vs:List UInt8)(i:Nat)(c:UInt8):List UInt8×Bool×Bool:=
 if bv vs i=c then (vs,true,false) else if bv vs i=0 then (vs.set i c,true,true) else (vs,false,false)
section
variable {vs vs':List UInt8}{i j k:Nat}{a b c:UInt8}
theorem Qq6 (d:vs[i]? =some a)(e:vs[j]? =some b):agr vs i j=if a=b then (vs,true,false) else if a=0 then (vs.set i b,true,true) else if b=0 then (vs.set j a,true,true) else (vs,false,false):=by
 unfold agr; rw[Yu d,Yu e]
theorem Qjn (d:vs[i]? =some a):agb vs i c=if a=c then (vs,true,false) else if a=0 then (vs.set i c,true,true) else (vs,false,false):=by
 unfold agb; rw[Yu d]
theorem QsS (vs:List UInt8)(i j:Nat):(agr vs i j).1.length=vs.length:=by
 unfold agr; split <;> try rfl
 split <;> try simp
 split <;> simp
theorem Qf2 (vs:List UInt8)(i:Nat)(c:UInt8):(agb vs i c).1.length=vs.length:=by
 unfold agb; split <;> try rfl
 split <;> simp
def WG (vs:List UInt8):Nat:=(vs.filter fun c=>c=0).length
theorem Qpe (n:Nat):WG (List.replicate n 0)=n:=by simp[WG]
theorem Qei {l:List UInt8}(h:l[i]? =some 0)(d:c≠0):WG (l.set i c)+1=WG l:=by
 induction l generalizing i with
 | nil=>simp at h
 | cons x l e=>
  cases i with
  | zero=>
   simp only[bN,bn] at h
   subst h
   simp[WG,d]
  | succ i=>
   have:=e (i:=i) (by simpa using h)
   simp only[WG,bI,cp] at this ⊢
   split <;> simp_all
theorem QsT (m:i < vs.length)(o:j < vs.length):WG (agr vs i j).1≤WG vs∧((agr vs i j).2.2=true→WG (agr vs i j).1 < WG vs)∧((agr vs i j).2.1=true→(agr vs i j).2.2=false→(agr vs i j).1=vs):=by
 have d:=aj m
 have e:=aj o
 rw[Qq6 d e]
 split
 ·simp
 ·rename_i l
  split
  ·rename_i g
   rw[g] at d l
   have:=Qei d (c:=vs[j]) (fun h=>l h.symm)
   simp; omega
  ·rename_i g
   split
   ·rename_i p
    rw[p] at e
    have:=Qei e g
    simp; omega
   ·simp
theorem Qls (e:i < vs.length)(h:c≠0):WG (agb vs i c).1≤WG vs∧((agb vs i c).2.2=true→WG (agb vs i c).1 < WG vs)∧((agb vs i c).2.1=true→(agb vs i c).2.2=false→(agb vs i c).1=vs):=by
 have d:=aj e
 rw[Qjn d]
 split
 ·simp
 ·split
  ·rename_i g
   rw[g] at d
   have:=Qei d h
   simp; omega
  ·simp
end
def KZ (sig:Int)(a:DAr)(vs:List UInt8):Option (List UInt8×Bool):=
 if a.2.1=sig then
  (if (agb vs a.1.toNat (if (!a.2.2.1) = true then 49 else 48)).2.1 = true ∧ (agb (agb vs a.1.toNat (if (!a.2.2.1) = true then 49 else 48)).1 a.2.2.2.toNat (if a.2.2.1 = true then 49 else 48)).2.1 = true then
   some ((agb (agb vs a.1.toNat (if (!a.2.2.1)=true then 49 else 48)).1 a.2.2.2.toNat (if a.2.2.1=true then 49 else 48)).1,(agb vs a.1.toNat (if (!a.2.2.1)=true then 49 else 48)).2.2||(agb (agb vs a.1.toNat (if (!a.2.2.1)=true then 49 else 48)).1 a.2.2.2.toNat (if a.2.2.1=true then 49 else 48)).2.2)
  else none)
 else if (agr vs a.1.toNat a.2.2.2.toNat).2.1=true then some ((agr vs a.1.toNat a.2.2.2.toNat).1,(agr vs a.1.toNat a.2.2.2.toNat).2.2) else none
def Ug (sig:Int):List DAr→List UInt8→Bool→Option (List UInt8×Bool)
 | [],vs,ch=>some (vs,ch)
 | a :: rs,vs,ch=>match KZ sig a vs with
  | none=>none
  | some (vs',c)=>Ug sig rs vs' (ch||c)
def QaB (sig:Int)(arcs:List DAr):Nat→List UInt8→Option (List UInt8)
 | 0,vs=>some vs
 | f+1,vs=>match Ug sig arcs vs false with
  | none=>none
  | some (vs',ch)=>if ch=true then QaB sig arcs f vs' else some vs'
def Qyx (sig:Int)(arcs:List DAr)(f:Nat):Option (List UInt8×Bool)→Option (List UInt8)
 | none=>none
 | some (vs',ch)=>if ch=true then QaB sig arcs f vs' else some vs'
def fz (c:UInt8):UInt8:=if c=0 then 48 else c
def Vh (n:Nat)(arcs:List DAr)(sig:Int):List UInt8×Bool:=match QaB sig arcs (n+1) (List.replicate n 0) with
 | none=>([],false)
 | some vs=>(vs.map fz,true)
def InR (n:Int)(a:DAr):Prop:=(0≤a.1∧a.1 < n)∧0≤a.2.2.2∧a.2.2.2 < n
section
variable {sig n:Int}{a:DAr}{vs vs':List UInt8}{arcs rs:List DAr}{ch ch' c:Bool}{f k:Nat}
theorem QgS (b:Bool):(if b=true then (49:UInt8) else 48)≠0:=by split <;> decide
theorem Hv (v:InR vs.length a)(h:KZ sig a vs=some (vs',c)):vs'.length=vs.length∧WG vs'≤WG vs∧(c=true→WG vs' < WG vs)∧(c=false→vs'=vs):=by
 obtain ⟨⟨w,x⟩,y,z⟩:=v
 unfold KZ at h
 have e:=QgS (!a.2.2.1)
 have g:=QgS a.2.2.1
 generalize (if (!a.2.2.1)=true then (49:UInt8) else 48)=f0 at h e
 generalize (if a.2.2.1=true then (49:UInt8) else 48)=t0 at h g
 have l:=Qls (vs:=vs) (i:=a.1.toNat) (c:=f0) (by omega) e
 have d:=Qls (vs:=(agb vs a.1.toNat f0).1) (i:=a.2.2.2.toNat) (c:=t0) (by rw[Qf2]; omega) g
 have o:=QsT (vs:=vs) (i:=a.1.toNat) (j:=a.2.2.2.toNat) (by omega) (by omega)
 have r:=Qf2 vs a.1.toNat f0
 have q:=Qf2 (agb vs a.1.toNat f0).1 a.2.2.2.toNat t0
 have s:=QsS vs a.1.toNat a.2.2.2.toNat
 generalize agb (agb vs a.1.toNat f0).1 a.2.2.2.toNat t0=g2 at h d q
 generalize agb vs a.1.toNat f0=g1 at h l d r q
 generalize agr vs a.1.toNat a.2.2.2.toNat=g3 at h o s
 split at h
 ·split at h
  ·rename_i m
   simp only[bn,Prod.mk.injEq] at h
   obtain ⟨rfl,rfl⟩:=h
   refine ⟨q.trans r,bu d.1 l.1,fun p=> ?_,fun p=> ?_⟩
   ·rcases Bool.or_eq_true_iff.1 p with h | h
    ·exact Nat.lt_of_le_of_lt d.1 (l.2.1 h)
    ·exact aX (d.2.1 h) l.1
   ·obtain ⟨t,u⟩:=dx.1 p
    rw[d.2.2 m.2 u,l.2.2 m.1 t]
  ·cases h
 ·split at h
  ·rename_i m
   simp only[bn,Prod.mk.injEq] at h
   obtain ⟨rfl,rfl⟩:=h
   exact ⟨s,o.1,o.2.1,o.2.2 m⟩
  ·cases h
theorem QdD {m:Nat}(o:∀a∈rs,InR m a)(d:vs.length=m)(h:Ug sig rs vs ch=some (vs',ch')):vs'.length=m∧WG vs'≤WG vs∧(ch'=true→ch=true∨WG vs' < WG vs)∧(ch'=false→vs'=vs∧ch=false):=by
 induction rs generalizing vs ch with
 | nil=>rw[Ug] at h; cases h; exact ⟨d,aK _,fun h=> .inl h,fun h=>⟨rfl,h⟩⟩
 | cons a rs z=>
  rw[Ug] at h
  cases g:KZ sig a vs with
  | none=>rw[g] at h; cases h
  | some r=>
   obtain ⟨D,c1⟩:=r
   rw[g] at h
   obtain ⟨v,l,w,x⟩:=Hv (by rw[d]; exact o a (ax ..)) g
   obtain ⟨A,p,B,C⟩:=z (fun b y=>o b (aw _ y)) (v.trans d) h
   refine ⟨A,bu p l,fun e=> ?_,fun e=> ?_⟩
   ·rcases B e with h | h
    ·rcases Bool.or_eq_true_iff.1 h with h | h
     ·exact .inl h
     ·exact .inr (Nat.lt_of_le_of_lt p (w h))
    ·exact .inr (aX h l)
   ·obtain ⟨q,s⟩:=C e
    obtain ⟨t,u⟩:=dx.1 s
    exact ⟨q.trans (x u),t⟩
theorem HS {n:Nat}(h:QaB sig arcs (n+1) (List.replicate n 0)=none):Vh n arcs sig=([],false):=by unfold Vh; rw[h]
theorem Qnf {n:Nat}(h:QaB sig arcs (n+1) (List.replicate n 0)=some vs):Vh n arcs sig=(vs.map fz,true):=by unfold Vh; rw[h]
def QyE (vs:List UInt8)(k:Nat):List UInt8:=(vs.take k).map fz++vs.drop k
end
end Go.Proofs.YtndabgcpnmeeoaaGreat
namespace Go.Proofs.YtndabgcpnmeeoaaGreat
open Go.RowKit
set_option maxRecDepth 100000
set_option maxHeartbeats 4000000
def YL (sig:Int)(a:DAr)(us:List UInt8):Option (List UInt8):=
 if a.2.1=sig then
  (if (bv us a.1.toNat≠63∧bv us a.1.toNat≠(if (!a.2.2.1)=true then 49 else 48))∨(bv us a.2.2.2.toNat≠63∧bv us a.2.2.2.toNat≠(if a.2.2.1=true then 49 else 48)) then none
  else some ((us.set a.1.toNat (if (!a.2.2.1)=true then 49 else 48)).set a.2.2.2.toNat (if a.2.2.1=true then 49 else 48)))
 else if bv us a.1.toNat=63 then some ((us.set a.1.toNat (bv us a.2.2.2.toNat)).set a.2.2.2.toNat (bv us a.2.2.2.toNat))
 else if bv us a.2.2.2.toNat≠63∧bv us a.2.2.2.toNat≠bv us a.1.toNat then none
 else some ((us.set a.1.toNat (bv us a.1.toNat)).set a.2.2.2.toNat (bv us a.1.toNat))
def Xf (sig:Int):List DAr→List UInt8→Option (List UInt8)
 | [],us=>some us
 | a :: rs,us=>match YL sig a us with
  | none=>none
  | some us'=>Xf sig rs us'
def Wa (sig:Int)(arcs:List DAr):Nat→List UInt8→Option (List UInt8)
 | 0,us=>some us
 | f+1,us=>match Xf sig arcs us with
  | none=>none
  | some us'=>Wa sig arcs f us'
def JQ (sig:Int)(arcs:List DAr)(f:Nat):Option (List UInt8)→Option (List UInt8)
 | none=>none
 | some us'=>Wa sig arcs f us'
def l5V (n:Nat)(arcs:List DAr)(sig:Int):ByteArray×Bool:=match Wa sig arcs (n+1) (List.replicate n 63) with
 | none=>(⟨#[]⟩,false)
 | some us=>(⟨us.toArray⟩,true)
section
variable {sig:Int}{a:DAr}{us us' vs vs':List UInt8}{arcs rs:List DAr}{f k m:Nat}{cf ct x:UInt8}{ch ch':Bool}{i j:Nat}
theorem Wv (b:arcs[k]? =some a)(h:YL sig a us=some us'):Xf sig (arcs.drop k) us=Xf sig (arcs.drop (k+1)) us':=by rw[Yo b,Xf,h]
theorem XP (b:arcs[k]? =some a)(h:YL sig a us=none):Xf sig (arcs.drop k) us=none:=by rw[Yo b,Xf,h]
theorem QmY (b:arcs.length≤k):Xf sig (arcs.drop k) us=some us:=by rw[bR b,Xf]
theorem QoQ (f:Nat)(us:List UInt8):Wa sig arcs (f+1) us=JQ sig arcs f (Xf sig arcs us):=by
 rw[Wa]; cases Xf sig arcs us <;> rfl
theorem WM {n:Nat}(h:Wa sig arcs (n+1) (List.replicate n 63)=none):l5V n arcs sig=(⟨#[]⟩,false):=by unfold l5V; rw[h]
theorem Qgo {n:Nat}(h:Wa sig arcs (n+1) (List.replicate n 63)=some us):l5V n arcs sig=(⟨us.toArray⟩,true):=by unfold l5V; rw[h]
def qm (c:UInt8):UInt8:=if c=0 then 63 else c
def Kn (vs:List UInt8):Prop:=∀c∈vs,c=0∨c=48∨c=49
theorem Kn.set (h:Kn vs){c:UInt8}(e:c=0∨c=48∨c=49)(i:Nat):Kn (vs.set i c):=fun d g=>by
 rcases cw g with b | b
 ·exact h d b
 ·rw[b]; exact e
theorem Kn.at (h:Kn vs)(hi:i < vs.length):∃c,vs[i]? =some c∧(c=0∨c=48∨c=49):=⟨_,aj hi,h _ (cM hi)⟩
theorem V7 {c:UInt8}(h:vs[i]? =some c):vs.set i c=vs:=by
 apply bK
 intro j
 by_cases e:i=j
 ·subst e; rw[aY (ah.1 h).1,h]
 ·rw[bh e]
theorem Qps (hi:vs[i]? =some cf):bv (vs.map qm) i=qm cf:=Yu (by rw[bg,hi]; rfl)
theorem Qym (b:Bool):((if b=true then (49:UInt8) else 48)=49∧(if (!b)=true then (49:UInt8) else 48)=48)∨((if b=true then (49:UInt8) else 48)=48∧(if (!b)=true then (49:UInt8) else 48)=49):=by cases b <;> simp
theorem QsU (b:i≠j)(c:UInt8)(h:vs[j]? =some ct):(agb vs i c).1[j]? =some ct:=by
 unfold agb
 split
 ·exact h
 ·split
  ·show (vs.set i c)[j]? =_
   rw[bh b]; exact h
  ·exact h
theorem QnW (b:Kn vs)(D:InR vs.length a)(h:a.2.1=sig→a.1≠a.2.2.2):YL sig a (vs.map qm)=(KZ sig a vs).map (fun r=>r.1.map qm)∧∀vs' c,KZ sig a vs=some (vs',c)→Kn vs':=by
 obtain ⟨⟨E,F⟩,G,H⟩:=D
 obtain ⟨cf,l,z⟩:=b.at (i:=a.1.toNat) (by omega)
 obtain ⟨ct,o,A⟩:=b.at (i:=a.2.2.2.toNat) (by omega)
 unfold YL KZ
 rw[Qps l,Qps o]
 by_cases n:a.2.1=sig
 ·rw[if_pos n,if_pos n]
  have g:a.1.toNat≠a.2.2.2.toNat:=by have:=h n; omega
  have C:=fun c=>QsU (vs:=vs) g c o
  rw[Qjn (C _),Qjn l]
  have y:∀c d:UInt8,((vs.map qm).set a.1.toNat c).set a.2.2.2.toNat d=((vs.map qm).set a.2.2.2.toNat d).set a.1.toNat c:=fun c d=>List.set_comm _ _ g
  have B:∀d,(vs.set a.2.2.2.toNat d)[a.1.toNat]? =some cf:=fun d=>by rw[bh (Ne.symm g)]; exact l
  have t:(vs.map qm)[a.1.toNat]? =some (qm cf):=by rw[bg,l]; rfl
  have mt:(vs.map qm)[a.2.2.2.toNat]? =some (qm ct):=by rw[bg,o]; rfl
  have u:∀d,((vs.map qm).set a.1.toNat d)[a.2.2.2.toNat]? =some (qm ct):=fun d=>by rw[bh g]; exact mt
  have p:=V7 t
  have q:=V7 mt
  have s:=fun d=>V7 (u d)
  rcases Qym a.2.2.1 with ⟨v,w⟩ | ⟨v,w⟩ <;> rw[v,w] <;> rcases z with rfl | rfl | rfl <;> rcases A with rfl | rfl | rfl <;> simp only[qm] at p q s ⊢ <;> simp[List.map_set,qm,p,q,s] at* <;> first | done | (refine ⟨?_, ?_⟩ <;> first | (simp_all; done) | (intros; subst_vars; first | exact (b.set (.inr (.inl rfl)) _).set (.inr (.inr rfl)) _ | exact (b.set (.inr (.inr rfl)) _).set (.inr (.inl rfl)) _ | exact b.set (.inr (.inl rfl)) _ | exact b.set (.inr (.inr rfl)) _ | exact b)) | (intros; subst_vars; first | exact (b.set (.inr (.inl rfl)) _).set (.inr (.inr rfl)) _ | exact (b.set (.inr (.inr rfl)) _).set (.inr (.inl rfl)) _ | exact b.set (.inr (.inl rfl)) _ | exact b.set (.inr (.inr rfl)) _ | exact b) | (simp_all; done)
 ·rw[if_neg n,if_neg n,Qq6 l o]
  have t:(vs.map qm)[a.1.toNat]? =some (qm cf):=by rw[bg,l]; rfl
  have mt:(vs.map qm)[a.2.2.2.toNat]? =some (qm ct):=by rw[bg,o]; rfl
  have p:=V7 t
  have q:=V7 mt
  have s:((vs.map qm).set a.1.toNat (qm ct)).set a.2.2.2.toNat (qm ct)=(vs.map qm).set a.1.toNat (qm ct):=by
   by_cases e:a.1.toNat=a.2.2.2.toNat
   ·rw[e,dl]
   ·exact V7 (by rw[bh e]; exact mt)
  rcases z with rfl | rfl | rfl <;> rcases A with rfl | rfl | rfl <;> simp only[qm] at p q s ⊢ <;> simp[List.map_set,qm,p,q,s] at* <;> first | done | (refine ⟨?_, ?_⟩ <;> first | (simp_all; done) | (intros; subst_vars; first | exact b.set (.inr (.inl rfl)) _ | exact b.set (.inr (.inr rfl)) _ | exact b)) | (intros; subst_vars; first | exact b.set (.inr (.inl rfl)) _ | exact b.set (.inr (.inr rfl)) _ | exact b) | (simp_all; done)
theorem Qnj (l:∀a∈rs,InR m a)(o:∀a∈rs,a.2.1=sig→a.1≠a.2.2.2)(n:Kn vs)(g:vs.length=m):Xf sig rs (vs.map qm)=(Ug sig rs vs ch).map (fun r=>r.1.map qm)∧∀vs' c,Ug sig rs vs ch=some (vs',c)→Kn vs':=by
 induction rs generalizing vs ch with
 | nil=>exact ⟨rfl,fun vs' c h=>by rw[Ug] at h; cases h; exact n⟩
 | cons a rs s=>
  obtain ⟨p,q⟩:=QnW n (by rw[g]; exact l a (ax ..)) (o a (ax ..))
  rw[Xf,Ug,p]
  cases d:KZ sig a vs with
  | none=>exact ⟨rfl,fun vs' c h=>by cases h⟩
  | some r=>
   obtain ⟨t,c1⟩:=r
   exact s (fun b e=>l b (aw _ e)) (fun b e=>o b (aw _ e)) (q _ _ d) ((Hv (by rw[g]; exact l a (ax ..)) d).1.trans g)
theorem QfA (h:Xf sig arcs us=some us):∀f,Wa sig arcs f us=some us
 | 0=>rfl
 | f+1=>by rw[Wa,h]; exact QfA h f
theorem QhR (e:∀a∈arcs,InR m a)(g:∀a∈arcs,a.2.1=sig→a.1≠a.2.2.2):∀{f:Nat} {vs:List UInt8},Kn vs→vs.length=m→WG vs < f→Wa sig arcs f (vs.map qm)=(QaB sig arcs f vs).map (List.map qm)∧∀vs',QaB sig arcs f vs=some vs'→Kn vs'
 | 0,_,_,_,h=>by omega
 | f+1,vs,hk,hl,h=>by
  obtain ⟨c,n⟩:=Qnj (ch:=false) e g hk hl
  rw[Wa,QaB,c]
  cases d:Ug sig arcs vs false with
  | none=>exact ⟨rfl,fun vs' h=>by cases h⟩
  | some r=>
   obtain ⟨l,c1⟩:=r
   obtain ⟨o,s,p,q⟩:=QdD e hl d
   cases c1 with
   | true=>
    rcases p rfl with b | b
    ·cases b
    ·have b:WG l < WG vs:=b
     exact QhR e g (n _ _ d) o (show WG l < f by omega)
   | false=>
    obtain ⟨rfl,_⟩:=q rfl
    rw[d] at c
    exact ⟨QfA c f,fun vs' h=>by cases h; exact hk⟩
theorem QlP (vs:List UInt8)(i:Nat)(c:UInt8):agb vs i c=if bv vs i=c then (vs,true,false) else if bv vs i=0 then (vs.set i c,true,true) else (vs,false,false):=rfl
theorem Qkj (o:a.2.1=sig)(n:a.1=a.2.2.2)(hi:a.1.toNat < vs.length):KZ sig a vs=none:=by
 unfold KZ
 rw[if_pos o,← n]
 have g:=QgS a.2.2.1
 have d:=QgS (!a.2.2.1)
 have c:(if (!a.2.2.1)=true then (49:UInt8) else 48)≠(if a.2.2.1=true then 49 else 48):=by cases a.2.2.1 <;> decide
 generalize (if (!a.2.2.1)=true then (49:UInt8) else 48)=f0 at d c ⊢
 generalize (if a.2.2.1=true then (49:UInt8) else 48)=t0 at g c ⊢
 rw[if_neg]
 rintro ⟨b,e⟩
 have p:bv (agb vs a.1.toNat f0).1 a.1.toNat=f0:=by
  rw[QlP] at b ⊢
  split
  ·assumption
  ·rename_i h
   rw[if_neg h] at b
   split
   ·exact Yu (aY hi)
   ·rename_i l
    rw[if_neg l] at b
    cases b
 rw[QlP (agb vs a.1.toNat f0).1,p,if_neg c,if_neg d] at e
 cases e
theorem QkK {b:DAr}(h:∀a∈rs,InR m a)(c:vs.length=m)(e:b∈rs)(o:b.2.1=sig)(n:b.1=b.2.2.2):Ug sig rs vs ch=none:=by
 induction rs generalizing vs ch with
 | nil=>cases e
 | cons a rs p=>
  have g:=h a (ax ..)
  rw[Ug]
  cases d:KZ sig a vs with
  | none=>rfl
  | some r=>
   obtain ⟨q,c1⟩:=r
   rcases aC.1 e with rfl | e
   ·have:=g.1
    rw[Qkj o n (by omega)] at d
    cases d
   ·exact p (fun b l=>h b (aw _ l)) ((Hv (by rw[c]; exact g) d).1.trans c) e
theorem QnJ (h:YL sig a us=some us'):us'.length=us.length:=by
 unfold YL at h
 generalize (if (!a.2.2.1)=true then (49:UInt8) else 48)=f0 at h
 generalize (if a.2.2.1=true then (49:UInt8) else 48)=t0 at h
 split at h
 ·split at h
  ·cases h
  ·cases h; simp
 ·split at h
  ·cases h; simp
  ·split at h
   ·cases h
   ·cases h; simp
theorem Qew {c:UInt8}(h:YL sig a us=some us')(g:us[i]? =some c)(h0:c≠63):us'[i]? =some c:=by
 have p:=(ah.1 g).1
 have b:∀x y:UInt8,(i=a.2.2.2.toNat→y=c)→(i=a.1.toNat→x=c)→((us.set a.1.toNat x).set a.2.2.2.toNat y)[i]? =some c:=fun x y q d=>by
  by_cases n:a.2.2.2.toNat=i
  ·rw[n,aY (by simpa using p),q n.symm]
  ·rw[bh n]
   by_cases o:a.1.toNat=i
   ·rw[o,aY p,d o.symm]
   ·rw[bh o]; exact g
 unfold YL at h
 generalize (if (!a.2.2.1)=true then (49:UInt8) else 48)=f0 at h
 generalize (if a.2.2.1=true then (49:UInt8) else 48)=t0 at h
 split at h
 ·split at h
  ·cases h
  ·rename_i d
   cases h
   refine b _ _ (fun e=> ?_) (fun e=> ?_)
   ·rw[← e,Yu g] at d
    exact cy fun l=>d (.inr ⟨h0,fun e=>l e.symm⟩)
   ·rw[← e,Yu g] at d
    exact cy fun l=>d (.inl ⟨h0,fun e=>l e.symm⟩)
 ·split at h
  ·rename_i d
   cases h
   refine b _ _ (fun e=> ?_) (fun e=> ?_)
   ·rw[← e,Yu g]
   ·rw[← e,Yu g] at d; exact absurd d h0
  ·split at h
   ·cases h
   ·rename_i d l
    cases h
    refine b _ _ (fun e=> ?_) (fun e=> ?_)
    ·rw[← e,Yu g] at l
     exact cy fun r=>l ⟨h0,fun e=>r e.symm⟩
    ·rw[← e,Yu g]
theorem Qka {c:UInt8}(h:Xf sig rs us=some us')(d:us[i]? =some c)(h0:c≠63):us'[i]? =some c:=by
 induction rs generalizing us with
 | nil=>rw[Xf] at h; cases h; exact d
 | cons a rs e=>
  rw[Xf] at h
  cases b:YL sig a us with
  | none=>rw[b] at h; cases h
  | some g=>rw[b] at h; exact e h (Qew b d h0)
theorem QjQ {b:DAr}(e:b∈rs)(o:b.2.1=sig)(n:b.1=b.2.2.2)(hi:b.1.toNat < us.length)(h:Xf sig rs us=some us'):∃c,us'[b.1.toNat]? =some c∧c≠63:=by
 induction rs generalizing us with
 | nil=>cases e
 | cons a rs p=>
  rw[Xf] at h
  cases d:YL sig a us with
  | none=>rw[d] at h; cases h
  | some q=>
   rw[d] at h
   rcases aC.1 e with rfl | e
   ·have l:q[b.1.toNat]? =some (if b.2.2.1=true then 49 else 48):=by
     unfold YL at d
     rw[if_pos o] at d
     generalize (if (!b.2.2.1)=true then (49:UInt8) else 48)=f0 at d
     generalize (if b.2.2.1=true then (49:UInt8) else 48)=t0 at d ⊢
     split at d
     ·cases d
     ·cases d
      rw[← n,aY (by simpa using hi)]
    have g:(if b.2.2.1=true then (49:UInt8) else 48)≠63:=by cases b.2.2.1 <;> decide
    exact ⟨_,Qka h l g,g⟩
   ·exact p e (by rw[QnJ d]; exact hi) h
theorem Qki {b:DAr}{c:UInt8}(d:b∈rs)(p:b.2.1=sig)(o:b.1=b.2.2.2)(h:us[b.1.toNat]? =some c)(h0:c≠63):Xf sig rs us=none:=by
 induction rs generalizing us with
 | nil=>cases d
 | cons a rs q=>
  rw[Xf]
  rcases aC.1 d with rfl | d
  ·have:YL sig b us=none:=by
    unfold YL
    rw[if_pos p,← o,Yu h,if_pos]
    have n:(if (!b.2.2.1)=true then (49:UInt8) else 48)≠(if b.2.2.1=true then 49 else 48):=by cases b.2.2.1 <;> decide
    by_cases e:c=(if (!b.2.2.1)=true then (49:UInt8) else 48)
    ·exact .inr ⟨h0,fun l=>n (e.symm.trans l)⟩
    ·exact .inl ⟨h0,e⟩
   rw[this]
  ·cases g:YL sig a us with
   | none=>rfl
   | some r=>exact q d (Qew g h h0)
def q0 (c:UInt8):UInt8:=if c=63 then 48 else c
theorem Qwj (d:Kn vs):(vs.map qm).map q0=vs.map fz:=by
 rw[dQ]
 refine List.map_congr_left fun c b=> ?_
 rcases d c b with rfl | rfl | rfl <;> rfl
theorem QcV {n:Nat}(t:∀a∈arcs,InR n a):((l5V n arcs sig).2=false∧(Vh n arcs sig).2=false∧l5V n arcs sig=(⟨#[]⟩,false)∧Vh n arcs sig=([],false))∨∃us:List UInt8,l5V n arcs sig=(⟨us.toArray⟩,true)∧us.length=n∧Vh n arcs sig=(us.map q0,true):=by
 by_cases d:∃b∈arcs,b.2.1=sig∧b.1=b.2.2.2
 ·obtain ⟨b,s,l,y⟩:=d
  have A:QaB sig arcs (n+1) (List.replicate n 0)=none:=by rw[QaB,QkK t (by simp) s l y]
  obtain ⟨⟨H,I⟩,_,_⟩:=t b s
  have z:Wa sig arcs (n+1) (List.replicate n 63)=none:=by
   obtain ⟨u,rfl⟩:∃u,n=u+1:=⟨n - 1,by omega⟩
   rw[Wa]
   cases q:Xf sig arcs (List.replicate (u+1) 63) with
   | none=>rfl
   | some G=>
    obtain ⟨c,g,p⟩:=QjQ s l y (by simp; omega) q
    show Wa sig arcs (u+1) G=none
    rw[Wa,Qki s l y g p]
  exact .inl ⟨by rw[WM z],by rw[HS A],WM z,HS A⟩
 ·have E:∀a∈arcs,a.2.1=sig→a.1≠a.2.2.2:=fun a C g p=>d ⟨a,C,g,p⟩
  obtain ⟨g,p⟩:=QhR (f:=n+1) (vs:=List.replicate n 0) t E (fun c D=> .inl (cW D)) (by simp) (by rw[Qpe]; omega)
  have e:(List.replicate n (0:UInt8)).map qm=List.replicate n 63:=by rw[List.map_replicate]; rfl
  rw[e] at g
  cases o:QaB sig arcs (n+1) (List.replicate n 0) with
  | none=>
   rw[o] at g
   exact .inl ⟨by rw[WM g],by rw[HS o],WM g,HS o⟩
  | some vs=>
   rw[o] at g
   refine .inr ⟨vs.map qm,Qgo g, ?_, ?_⟩
   ·have:∀{f:Nat} {v w:List UInt8},v.length=n→QaB sig arcs f v=some w→w.length=n:=fun {f}=>by
     induction f with
     | zero=>intro v w l h; rw[QaB] at h; cases h; exact l
     | succ f F=>
      intro v w l h
      rw[QaB] at h
      cases q:Ug sig arcs v false with
      | none=>rw[q] at h; cases h
      | some r=>
       obtain ⟨J,c1⟩:=r
       rw[q] at h
       have B:=(QdD t l q).1
       cases c1 with
       | true=>exact F B h
       | false=>cases h; exact B
    rw[aJ]
    exact this (by simp) o
   ·rw[Qnf o,Qwj (p _ o)]
end
end Go.Proofs.YtndabgcpnmeeoaaGreat
