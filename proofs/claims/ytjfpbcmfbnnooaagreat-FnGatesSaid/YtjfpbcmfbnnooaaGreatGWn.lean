/- Walks over abstract states: reachability. -/
import Derived.Test.YtjfpbcmfbnnooaaGreatGWk
set_option linter.unusedSimpArgs false
set_option linter.unusedVariables false
set_option linter.unusedSectionVars false
namespace Go.Proofs.YtjfpbcmfbnnooaaGreat
open Go.RowKit
set_option maxRecDepth 100000
set_option maxHeartbeats 4000000
abbrev RS:=List ByteArray×List (Int×Int×Int)×List (Int×Int×Int)
abbrev Qjo:=Int×Int×Bool
def YO (l:List ByteArray)(x:ByteArray):Int:=Zf (fun y=>decide (y=x)) l
def goT (n:XG)(k:Nat)(mk:ByteArray):List Int→RS→RS×Qjo
 | [],st=>(st,(-1,-1,true))
 | t::ts,st=>
  if (YB n mk t).2=false then (st,(k,t,false))
  else if 0≤YO st.1 (YB n mk t).1 then goT n k mk ts (st.1,st.2.1++[((k:Int),t,YO st.1 (YB n mk t).1)],st.2.2)
  else if st.1.length=300 then (st,(-1,-1,false))
  else goT n k mk ts (st.1++[(YB n mk t).1],st.2.1++[((k:Int),t,(st.1.length:Int))],st.2.2++[((k:Int),t,(st.1.length:Int))])
def goK (n:XG):Nat→Nat→RS→RS×Qjo
 | 0,_,st=>(st,(-1,-1,true))
 | f+1,k,st=>match st.1[k]? with
  | none=>(st,(-1,-1,true))
  | some mk=>if (goT n k mk (Jj n mk) st).2.2.2=true then goK n f (k+1) (goT n k mk (Jj n mk) st).1 else goT n k mk (Jj n mk) st
def Qbe (n:XG)(f k:Nat)(r:RS×Qjo):RS×Qjo:=if r.2.2.2=true then goK n f (k+1) r.1 else r
def ZK (s:ZG):RS×Qjo:=goK s.1 301 0 ([s.2.2.2],[],[((0:Int),(0:Int),(0:Int))])
def exV (s:ZG):(List ByteArray×List (Int×Int×Int))×Int×Int×Bool:=(((ZK s).1.1,(ZK s).1.2.1),(ZK s).2)
def l4V (s:ZG):(List ByteArray×List (Int×Int×Int))×List (Int×Int×Int)×Int×Int×Bool:=
 (((ZK s).1.1,(ZK s).1.2.1),(ZK s).1.2.2,(if 0≤(ZK s).2.2.1 then (ZK s).2.1 else 0),(ZK s).2.2.1,(!(ZK s).2.2.2&&decide ((ZK s).2.2.1<0)))
def Qm7:List ByteArray×List (Int×Int×Int):=([],[])
section
variable [∀s,Decidable (StgOk s)]
def Qo (s:ZG):(List ByteArray×List (Int×Int×Int))×Bool:=if StgOk s∧(ZK s).2.2.2=true then (((ZK s).1.1,(ZK s).1.2.1),true) else (Qm7,false)
end
theorem Qpy (l:List ByteArray)(x y:ByteArray):YO (l++[y]) x=if 0≤YO l x then YO l x else if y=x then (l.length:Int) else -1:=by
 unfold YO Zf
 rw[List.findIdx?_append]
 cases h:l.findIdx? (fun z=>decide (z=x)) with
 | some i=>simp
 | none=>
  by_cases e:y=x
  ·simp[e]
  ·simp[e]
def IdxOf (QH:List ByteArray)(idx:List (ByteArray×Int)):Prop:=∀x,Ve .str idx x=if 0≤YO QH x then some (YO QH x) else none
section
variable {QH:List ByteArray}{idx:List (ByteArray×Int)}{x:ByteArray}{v b:List (Int×Int×Int)}{n:XG}{k f i:Nat}{mk:ByteArray}{t:Int}{ts:List Int}{r:ByteArray×Bool}{j:Int}{s:ZG}{e:Qjo}
theorem IdxOf.new (h:IdxOf QH idx)(a:(Ve .str idx x).isSome=false):¬0≤YO QH x:=by
 rw[h x] at a
 intro c
 rw[if_pos c] at a;cases a
theorem IdxOf.set (h:IdxOf QH idx)(d:(Ve .str idx x).isSome=false):IdxOf (QH++[x]) (Js .str idx x (QH.length:Int)):=fun y=>by
 have c:=h.new d
 rw[Km,Qpy,h y]
 by_cases e:x=y
 ·subst e
  rw[if_pos ((Ty.beq_iff .str x x).2 rfl),if_neg c,if_pos rfl,if_pos (bV _)]
 ·have:Ty.beq .str x y=false:=cD.2 fun h=>e ((Ty.beq_iff .str x y).1 h)
  rw[if_neg (show¬Ty.beq .str x y=true by rw[this];decide),if_neg e]
  by_cases a:0≤YO QH y
  ·rw[if_pos a,if_pos a,if_pos a]
  ·rw[if_neg a,if_neg a,if_neg (by decide)]
theorem IdxOf.one (x:ByteArray):IdxOf [x] (Js .str ([]:List (ByteArray×Int)) x 0):=fun y=>by
 rw[Km]
 by_cases e:x=y
 ·subst e
  rw[if_pos ((Ty.beq_iff .str x x).2 rfl)]
  simp[YO,Zf]
 ·have:Ty.beq .str x y=false:=cD.2 fun h=>e ((Ty.beq_iff .str x y).1 h)
  rw[if_neg (show¬Ty.beq .str x y=true by rw[this];decide)]
  simp[YO,Zf,e,Ve]
theorem Hv (c:ts[i]? =some t)(a:r=YB n mk t)(hb:r.2=false):Qbe n f k (goT n k mk (ts.drop i) (QH,v,b))=((QH,v,b),((k:Int),t,false)):=by
 subst a
 rw[Yr c,goT,if_pos hb]
 rfl
theorem QnK (d:ts[i]? =some t)(c:r=YB n mk t)(hb:r.2=true)(a:0≤YO QH r.1∧j=YO QH r.1):Qbe n f k (goT n k mk (ts.drop i) (QH,v,b))=Qbe n f k (goT n k mk (ts.drop (i+1)) (QH,v++[((k:Int),t,j)],b)):=by
 subst c
 rw[Yr d,goT,if_neg (by rw[hb];decide),if_pos a.1,a.2]
theorem Kj (d:ts[i]? =some t)(c:r=YB n mk t)(hb:r.2=true)(a:¬0≤YO QH r.1)(g:(QH.length:Int)=300):Qbe n f k (goT n k mk (ts.drop i) (QH,v,b))=((QH,v,b),(-1,-1,false)):=by
 subst c
 rw[Yr d,goT,if_neg (by rw[hb];decide),if_neg a,if_pos (show QH.length=300 by omega)]
 rfl
theorem QnJ (d:ts[i]? =some t)(c:r=YB n mk t)(hb:r.2=true)(a:¬0≤YO QH r.1)(g:¬(QH.length:Int)=300):Qbe n f k (goT n k mk (ts.drop i) (QH,v,b))=Qbe n f k (goT n k mk (ts.drop (i+1)) (QH++[r.1],v++[((k:Int),t,(QH.length:Int))],b++[((k:Int),t,(QH.length:Int))])):=by
 subst c
 rw[Yr d,goT,if_neg (by rw[hb];decide),if_neg a,if_neg (show¬QH.length=300 by omega)]
theorem QuZ (hi:ts.length≤i)(a:k<300):Qbe n (300 - k) k (goT n k mk (ts.drop i) (QH,v,b))=goK n (301 - (k+1)) (k+1) (QH,v,b):=by
 rw[bR hi,goT,show 301 - (k+1)=300 - k by omega]
 rfl
theorem Qw5 (a:QH[k]? =some mk)(c:k<300):goK n (301 - k) k (QH,v,b)=Qbe n (300 - k) k (goT n k mk (Jj n mk) (QH,v,b)):=by
 rw[show 301 - k=(300 - k)+1 by omega,goK]
 simp only[a]
 rfl
theorem Hu (a:QH.length≤k):goK n f k (QH,v,b)=((QH,v,b),(-1,-1,true)):=by
 cases f with
 | zero=>rfl
 | succ f=>
  rw[goK]
  simp only[bD a]
theorem QmC (h:ZK s=((QH,v,b),e)):l4V s=((QH,v),b,(if 0≤e.2.1 then e.1 else 0),e.2.1,(!e.2.2&&decide (e.2.1<0))):=by
 unfold l4V;rw[h]
theorem Hw (h:ZK s=((QH,v,b),((k:Int),t,false)))(h0:0≤t):l4V s=((QH,v),b,(k:Int),t,false):=by
 rw[QmC h]
 simp[h0]
theorem Kl (h:ZK s=((QH,v,b),(-1,-1,false))):l4V s=((QH,v),b,0,-1,true):=by
 rw[QmC h];rfl
theorem Qcu (h:ZK s=((QH,v,b),(-1,-1,true))):l4V s=((QH,v),b,0,-1,false):=by
 rw[QmC h];rfl
theorem Qrb {m:ByteArray}{n:Int}(h:QaX m n){p:Int}(h0:0≤p)(d:p<n):(0≤p∧p<m.size)∧(bAt m p=48∨bAt m p=49):=by
 obtain ⟨c,g⟩:=h
 have a:p.toNat<m.size:=by omega
 refine ⟨⟨h0,by omega⟩,?_⟩
 have e:bAt m p=m[p.toNat]:=by unfold bAt;rw[dk m p.toNat a];rfl
 rw[e]
 rcases c p.toNat a a with h|h
 ·exact .inl (UInt8.toNat_inj.1 h)
 ·exact .inr (UInt8.toNat_inj.1 h)
theorem QhC {m:ByteArray}{n:Int}(h:QaX m n){ps:List Int}(d:JA ps (n - 1)):Qc4 m ps:=fun p c=>by
 obtain ⟨j,a⟩:=aK.1 c
 have:=(d j (ai.1 a).1 p a).1
 exact Qrb h (by omega) (by omega)
theorem QxB (hv:Y8 n)(h:QaX mk n.1):∀t∈n.2,Qc4 mk t.1∧Qc4 mk t.2:=fun t a=>⟨QhC h (hv.2.2 t a).2.1,QhC h (hv.2.2 t a).2.2⟩
theorem WS (d:(Jj n mk)[i]? =some t):0≤t∧t<n.2.length:=by
 obtain ⟨x,a,c,_⟩:=QpV (ae d)
 exact ⟨a,c⟩
theorem QjJ (n:XG)(mk:ByteArray):(Jj n mk).length≤n.2.length:=QhA _ _ _
def LBits (l:List UInt8):Prop:=∀c∈l,c=48∨c=49
theorem LBits.set {l:List UInt8}(h:LBits l){c:UInt8}(g:c=48∨c=49)(i:Nat):LBits (l.set i c):=fun d m=>by
 rcases ck m with a|a
 ·exact h d a
 ·rw[a];exact g
theorem LBits.clr {l:List UInt8}(h:LBits l)(ps:List Int):LBits (clr l ps):=by
 induction ps generalizing l with
 | nil=>exact h
 | cons p ps a=>exact a (h.set (.inl rfl) _)
theorem LBits.put {l c:List UInt8}(h:LBits l){ps:List Int}(a:J4 l ps=some c):LBits c∧c.length=l.length:=by
 induction ps generalizing l with
 | nil=>rw[J4] at a;cases a;exact ⟨h,rfl⟩
 | cons p ps m=>
  rw[J4] at a
  split at a
  ·cases a
  ·obtain ⟨d,g⟩:=m (h.set (.inr rfl) _) a
   exact ⟨d,by rw[g,aD]⟩
theorem QoW {m:ByteArray}{n:Int}(h:QaX m n):LBits m.toList:=fun c g=>by
 rw[bm] at g
 obtain ⟨i,o,e⟩:=List.getElem_of_mem g
 have a:i<m.size:=by simpa using o
 have d:=h.1 i a a
 have l:m[i]=c:=by rw[← e];rfl
 rw[l] at d
 rcases d with h|h
 ·exact .inl (UInt8.toNat_inj.1 h)
 ·exact .inr (UInt8.toNat_inj.1 h)
theorem QpL {l:List UInt8}{n:Int}(h:LBits l)(d:(l.length:Int)=n):QaX ⟨l.toArray⟩ n:=by
 refine ⟨fun k g c=> ?_,by rw[← d];rfl⟩
 have a:(⟨l.toArray⟩:ByteArray)[k]∈l:=by
  show l.toArray[k]∈l
  simp
 rcases h _ a with h|h
 ·exact .inl (by rw[h];rfl)
 ·exact .inr (by rw[h];rfl)
theorem Qfy (a:QaX mk n.1)(o:r=YB n mk t)(h:r.2=true):QaX r.1 n.1:=by
 subst o
 unfold YB at h ⊢
 cases d:n.2[t.toNat]? with
 | none=>rw[d] at h;cases h
 | some x=>
  rw[d] at h
  simp only at h ⊢
  unfold JY at h ⊢
  cases c:J4 (clr mk.toList x.1) x.2 with
  | none=>rw[c] at h;cases h
  | some l=>
   obtain ⟨g,m⟩:=((QoW a).clr x.1).put c
   refine QpL g ?_
   rw[m,Quh,Ww]
   exact a.2
theorem Qnb {p:ByteArray→Prop}(h:∀m∈QH,p m)(d:p x):∀m∈QH++[x],p m:=fun m c=>by
 rcases aQ.1 c with a|a
 ·exact h m a
 ·rw[aF.1 a];exact d
theorem Qra (h:QH[k]? =some mk):(QH++[x])[k]? =some mk:=by
 rw[bo (ai.1 h).1];exact h
end
theorem Qfw (QH:List ByteArray)(m:ByteArray):FC Tryz.prog 302 [(false,[.dat Qb QH]),(false,[dS m])] [] 0 (QK (lI (YO QH m))):=by
 refine Qj Tryz.func302 rfl rfl Tryz.ntmps302 fun A o w p B u q=> ?_
 refine w6 ?_
 refine alL 7 fun _=> ?_
 refine w4 ?_
 refine lpK QH.length (fun k=>NoneTo (fun y=>decide (y=m)) QH k) (fun k=>⟨[(1,lf (dS m)),(7,lf (.dat Qb QH)),(8,lI (QH.length:Int)),(9,lI (k:Int))],[]⟩) (NoneTo.zero) ?_ fun k _ a=> ?_
 exact wo []
 refine w4 ?_
 cases c:(decide ((k:Int)<(QH.length:Int)))
 have d:=aa c
 refine w6 ?_
 refine Qe<|fqI o ?_
 first|exact (a.no (by omega)).symm
 have d:=ab c
 refine w6 ?_
 obtain ⟨z,l⟩:=gx QH k
 refine w10 ?_
 cases g:(decide (z=m))
 have h:=aa g
 refine w6 ?_
 refine Qd ?_
 refine lK_ (a.step l ‹_›) ?_
 exact wo []
 have h:=ab g
 refine w5 ?_
 refine Qe<|fqI o ?_
 exact (a.at l ‹_›).symm
theorem Qdk (s:Qk1)(W:StgOk s):FC Tryz.prog 255 [(true,[dI s.1.1,.dat XZ s.1.2,.dat Ql s.2.1,.dat XQ s.2.2.1,dS s.2.2.2])] [] 0 (Is (ag [.ref 0,.ref 1,.ref 2,dI ((l4V s).2.2.1),dI ((l4V s).2.2.2.1),dB ((l4V s).2.2.2.2)]) [ar 0 9 .str (((l4V s).1).1),ar 1 229 Z5 (((l4V s).1).2),ar 2 229 Z5 ((l4V s).2.1)]):=by
 have a6:=W.net.2.1
 refine Qj Tryz.func255 rfl rfl Tryz.ntmps255 fun O_ S a9 a1 X_ a3 a2=> ?_
 refine acG 0 0 fun _=> ?_
 refine w_ ?_
 refine xbx 0 ?_
 refine lc (xal 1 Qx4 Qec) ?_
 refine w4 ?_
 refine lc (dBs 2 (e:= .str) Z3) ?_
 refine lc (Qk QdE ⟨_,_,rfl,(Qn rfl),rfl⟩ (au.1 rfl) rfl rfl)<|lc (Qk QdF rfl (au.1 rfl) rfl rfl) ?_
 refine lc (dBs 3 (e:=Z5) K5 (hab:=by exact ⟨_,_,_,_,rfl,⟨[dI 0],[dI 0,dI 0],_,_,_,_,rfl,rfl,⟨rfl,rfl⟩,⟨[dI 0],[dI 0],_,_,_,_,rfl,rfl,⟨rfl,rfl⟩,⟨rfl,rfl⟩,rfl⟩,rfl⟩,⟨rfl,rfl⟩,rfl⟩)) ?_
 refine lc (Qk Qt7 ⟨_,_,rfl,(Qn rfl),⟨_,_,rfl,(Qn rfl),⟨_,_,rfl,(Evl.ev (Qq rfl)),rfl⟩⟩⟩ (au.1 rfl) rfl rfl)<|lc (xal 4 Qx4 Qec) ?_
 refine w7 ?_
 refine AC.wk (Qr 6 (p:=4) (off:=1) 229 Z5 rfl rfl (Fresh.of rfl) (nlr rfl)) ?_
 refine Qu (fun K L=>∃(k:Nat) (QH:List ByteArray) (l:List (Int×Int×Int)) (y:List (Int×Int×Int)),k≤300∧K=300 - k∧(ZK s=goK s.1 (301 - k) k (QH,l,y))∧(∀m∈QH,QaX m s.1.1)∧(QH.length≤300)∧(l.length≤24*k)∧(y.length≤24*k+1)∧L=⟨[(1,lP 0 0),(2,lP 1 0),(3,lP 4 0),(4,lI (k:Int))],[bx 0 164 [dI s.1.1,.dat XZ s.1.2,.dat Ql s.2.1,.dat XQ s.2.2.1,dS s.2.2.2],bx 1 286 [.val (.slice none 0 0),.val (.slice none 0 0),.val (.slice none 0 0),dI 0,dI 0,dB false],bx 4 286 [.ref 5,.ref 7,.ref 8,dI 0,dI (-1),dB false],ar 5 9 .str QH,ar 7 229 Z5 l,ar 8 229 Z5 y]⟩) ⟨0,[s.2.2.2],([]:(Qc1:Ty).Den),[(0,0,0)],aL _,rfl,rfl,(by intro m hm;rw[aF.1 hm];exact W.bits),(aE rfl),(aE rfl),(aE rfl),rfl⟩ ?_ ?_
 exact wp [(5,2),(7,6),(8,3)] ⟨rfl,rfl,rfl,(Qm (by first|rfl|simp)),(Qm (by first|rfl|simp)),(Qm (by first|rfl|simp)),trivial⟩
 rintro K L ⟨k,QH,l,y,U,a5,D,X,hl,hv,hy,rfl⟩
 refine w9 ?_
 cases H:(decide ((k:Int)<(QH.length:Int)))
 have I:=aa H
 refine w8 ?_
 have e5:(0:Int)=((l4V s).2.2.1):=by
  (rw[Qcu (D.trans (Hu (by omega)))];done)
 have e6:((-1):Int)=((l4V s).2.2.2.1):=by
  (rw[Qcu (D.trans (Hu (by omega)))];done)
 have e7:(false:Bool)=((l4V s).2.2.2.2):=by
  (rw[Qcu (D.trans (Hu (by omega)))];done)
 exact fi_ [(0,5),(1,7),(2,8)] S ⟨(Qm (by (rw[Qcu (D.trans (Hu (by omega)))];done))),(Qm (by (rw[Qcu (D.trans (Hu (by omega)))];done))),(Qm (by (rw[Qcu (D.trans (Hu (by omega)))];done))),trivial⟩ (h0:=by rw[← e5,← e6,← e7] <;> rfl)
 have I:=ab H
 refine w4 ?_
 obtain ⟨mk,z⟩:=gx QH k
 have T:=X _ (ae z)
 have J:=QxB W.net T
 have a4:=QjJ s.1 mk
 apply dW (i6 25 _ _ _ _ _ _ (io 31 (lf (.ept 5 1 k 0))::io 32 (lf (dS mk))::io 33 (lf (.dat Qs (Jj s.1 mk)))::i2 34 _ _ [])) [0,0,3,3,3,31,3,3,0,0,1023]
 refine z6 ?_
 refine zz (fun _ w=>ac (ZH (e:= .str) (w.v rfl) (w.en 5 rfl) (w.v rfl) Zz ZX rfl (by omega) (by first|omega|(simp only[aD];omega))) rfl)<|zz (fun _ w=>ac (Yt (e:= .str) (w.v rfl) (w.n 5 rfl) z rfl ZX rfl rfl) rfl) ?_
 refine zz (fun _ w=>ac (dK (Qbu s.1 mk J (by omega)).frozen Ql4) rfl) ?_
 exact y2
 refine w_ ?_
 refine Qu (fun K L=>∃(i:Nat) (a:List ByteArray) (g:List (Int×Int×Int)) (q:List (Int×Int×Int)),i≤(Jj s.1 mk).length∧K=(Jj s.1 mk).length - i∧(ZK s=Qbe s.1 (300 - k) k (goT s.1 k mk ((Jj s.1 mk).drop i) (a,g,q)))∧(∀m∈a,QaX m s.1.1)∧(a.length≤300)∧(a[k]? =some mk)∧(g.length≤24*k+i)∧(q.length≤24*k+1+i)∧L=⟨[(1,lP 0 0),(2,lP 1 0),(3,lP 4 0),(4,lI (k:Int)),(17,lI (k:Int)),(18,lP 4 0),(19,lP 4 0),(21,lI (QH.length:Int)),(22,lB true),(25,lP 0 0),(26,ag [dI s.1.1,.dat XZ s.1.2]),(27,lP 4 0),(28,lP 4 0),(30,lI (k:Int)),(32,lf (dS mk)),(33,lf (.dat Qs (Jj s.1 mk))),(34,lI ((Jj s.1 mk).length:Int)),(35,lI (i:Int))],[bx 0 164 [dI s.1.1,.dat XZ s.1.2,.dat Ql s.2.1,.dat XQ s.2.2.1,dS s.2.2.2],bx 1 286 [.val (.slice none 0 0),.val (.slice none 0 0),.val (.slice none 0 0),dI 0,dI 0,dB false],bx 4 286 [.ref 9,.ref 10,.ref 11,dI 0,dI (-1),dB false],ar 9 9 .str a,ar 10 229 Z5 g,ar 11 229 Z5 q]⟩) ⟨0,QH,l,y,aL _,rfl,D.trans (Qw5 z (by omega)),X,hl,z,(by omega),(by omega),rfl⟩ ?_ ?_
 exact wo [(9,5),(10,7),(11,8)]
 rintro K L ⟨i,a,g,q,Z,a0,h,u,V,o,a7,a8,rfl⟩
 have U:=(ai.1 o).1
 refine w4 ?_
 cases A:(decide ((i:Int)<((Jj s.1 mk).length:Int)))
 have E:=aa A
 refine w7 ?_
 refine Qd<|QV ⟨k+1,a,g,q,by omega,rfl,h.trans (QuZ (by omega) (by omega)),u,V,(by omega),(by omega),rfl⟩ (by omega) ?_
 exact wo [(5,9),(7,10),(8,11)]
 have E:=ab A
 refine w5 ?_
 obtain ⟨d,c⟩:=gx (Jj s.1 mk) i
 refine w2 ?_
 refine alI 38 fun _=> ?_
 refine w2 ?_
 apply dW (i6 40 _ _ _ _ _ _ (io 46 (lf (.ept 9 1 k 0))::io 47 (lf (dS mk))::io 48 _::io 49 (PV.tup [(false,[dS ((YB s.1 mk d).1)]),(false,[dB ((YB s.1 mk d).2)])])::io 39 _::i2 50 _ _ (i2 7 _ _ []))) [0,0,3,3,3,31,3,3,255,0,0,0,2048,4096,0]
 refine z6 ?_
 refine zz (fun _ w=>ac (ZH (e:= .str) (w.v rfl) (w.en 9 rfl) (w.v rfl) Zz ZX rfl (by omega) (by first|omega|(simp only[aD];omega))) rfl)<|zz (fun _ w=>ac (Yt (e:= .str) (w.v rfl) (w.n 9 rfl) o rfl ZX rfl rfl) rfl) ?_
 refine z_ ?_
 refine zz (fun _ w=>ac (dK (Qfu s.1 mk d J (WS c)) Ql5) rfl) ?_
 exact y5
 refine w5 ?_
 cases Y:((YB s.1 mk d).2)
 refine w16 ?_
 have M:((k:Int):Int)=((l4V s).2.2.1):=by
  (rw[Hw (h.trans (Hv c rfl ‹_›)) (WS c).1];done)
 have N:(d:Int)=((l4V s).2.2.2.1):=by
  (rw[Hw (h.trans (Hv c rfl ‹_›)) (WS c).1];done)
 have O:(false:Bool)=((l4V s).2.2.2.2):=by
  (rw[Hw (h.trans (Hv c rfl ‹_›)) (WS c).1];done)
 exact fi_ [(0,9),(1,10),(2,11)] S ⟨(Qm (by (rw[Hw (h.trans (Hv c rfl ‹_›)) (WS c).1];done))),(Qm (by (rw[Hw (h.trans (Hv c rfl ‹_›)) (WS c).1];done))),(Qm (by (rw[Hw (h.trans (Hv c rfl ‹_›)) (WS c).1];done))),trivial⟩ (h0:=by rw[M,← N,← O] <;> rfl)
 refine w7 ?_
 refine lc (dB_ (Qfw a ((YB s.1 mk d).1)) Ql6) ?_
 refine w7 ?_
 cases B:(decide ((YO a ((YB s.1 mk d).1))<0))
 have F:=aa B
 refine w9 ?_
 refine lc (Qk QdF ⟨_,_,rfl,(Qn rfl),⟨_,_,rfl,(Qn rfl),⟨_,_,rfl,(Qn rfl),rfl⟩⟩⟩ (au.1 rfl) rfl rfl) ?_
 refine lc (dBs 12 (e:=Z5) K5 (hab:=by exact ⟨_,_,_,_,rfl,⟨[dI (k:Int)],[dI d,dI (YO a ((YB s.1 mk d).1))],_,_,_,_,rfl,rfl,⟨rfl,rfl⟩,⟨[dI d],[dI (YO a ((YB s.1 mk d).1))],_,_,_,_,rfl,rfl,⟨rfl,rfl⟩,⟨rfl,rfl⟩,rfl⟩,rfl⟩,⟨rfl,rfl⟩,rfl⟩)) ?_
 refine lc (dA 13 Qif) ?_
 refine w3 ?_
 refine Qd ?_
 refine w4 ?_
 refine Qd<|QV ⟨i+1,a,(g++([((k:Int),d,YO a ((YB s.1 mk d).1))])),q,by omega,rfl,by first|exact h.trans (QnK c rfl ‹_› ⟨by omega,rfl⟩)|exact h.trans (QnJ c rfl ‹_› (by omega) ‹_›),by first|exact u|exact Qnb u (Qfy (u _ (ae o)) rfl ‹_›),(by omega),by first|exact o|exact Qra o,(by simp only[ah,av,aC];omega),(by omega),rfl⟩ (by omega) ?_
 exact wp [(10,13)] ⟨rfl,rfl,rfl,rfl,(Qm (by first|rfl|simp)),rfl,trivial⟩
 have F:=ab B
 refine w9 ?_
 cases C:(decide ((a.length:Int)=300))
 have G:=aa C
 refine w14 ?_
 refine lc (dBs 14 (e:= .str) Z3) ?_
 refine lc (dA 15 YW) ?_
 refine w10 ?_
 refine lc (Qk QdF ⟨_,_,rfl,(Qn rfl),⟨_,_,rfl,(Qn rfl),⟨_,_,rfl,(Qn rfl),rfl⟩⟩⟩ (au.1 rfl) rfl rfl) ?_
 refine lc (dBs 16 (e:=Z5) K5 (hab:=by exact ⟨_,_,_,_,rfl,⟨[dI (k:Int)],[dI d,dI (a.length:Int)],_,_,_,_,rfl,rfl,⟨rfl,rfl⟩,⟨[dI d],[dI (a.length:Int)],_,_,_,_,rfl,rfl,⟨rfl,rfl⟩,⟨rfl,rfl⟩,rfl⟩,rfl⟩,⟨rfl,rfl⟩,rfl⟩)) ?_
 refine lc (dA 17 Qif) ?_
 refine w10 ?_
 refine lc (Qk QdF ⟨_,_,rfl,(Qn rfl),⟨_,_,rfl,(Qn rfl),⟨_,_,rfl,(Qn rfl),rfl⟩⟩⟩ (au.1 rfl) rfl rfl) ?_
 refine lc (dBs 18 (e:=Z5) K5 (hab:=by exact ⟨_,_,_,_,rfl,⟨[dI (k:Int)],[dI d,dI (a.length:Int)],_,_,_,_,rfl,rfl,⟨rfl,rfl⟩,⟨[dI d],[dI (a.length:Int)],_,_,_,_,rfl,rfl,⟨rfl,rfl⟩,⟨rfl,rfl⟩,rfl⟩,rfl⟩,⟨rfl,rfl⟩,rfl⟩)) ?_
 refine lc (dA 19 Qif) ?_
 refine w3 ?_
 refine Qd ?_
 refine w4 ?_
 refine Qd<|QV ⟨i+1,(a++([(YB s.1 mk d).1])),(g++([((k:Int),d,(a.length:Int))])),(q++([((k:Int),d,(a.length:Int))])),by omega,rfl,by first|exact h.trans (QnK c rfl ‹_› ⟨by omega,rfl⟩)|exact h.trans (QnJ c rfl ‹_› (by omega) ‹_›),by first|exact u|exact Qnb u (Qfy (u _ (ae o)) rfl ‹_›),(by (simp only[ah,av,aC];omega)),by first|exact o|exact Qra o,(by simp only[ah,av,aC];omega),(by (simp only[ah,av,aC];omega)),rfl⟩ (by omega) ?_
 exact wp [(9,15),(10,19),(11,17)] ⟨rfl,rfl,rfl,(Qm (by first|rfl|simp)),(Qm (by first|rfl|simp)),(Qm (by first|rfl|simp)),trivial⟩
 have G:=ab C
 refine w10 ?_
 have P:(0:Int)=((l4V s).2.2.1):=by
  (rw[Kl (h.trans (Kj c rfl ‹_› (by omega) ‹_›))];done)
 have Q:((-1):Int)=((l4V s).2.2.2.1):=by
  (rw[Kl (h.trans (Kj c rfl ‹_› (by omega) ‹_›))];done)
 have R:(true:Bool)=((l4V s).2.2.2.2):=by
  (rw[Kl (h.trans (Kj c rfl ‹_› (by omega) ‹_›))];done)
 exact fi_ [(0,9),(1,10),(2,11)] S ⟨(Qm (by (rw[Kl (h.trans (Kj c rfl ‹_› (by omega) ‹_›))];done))),(Qm (by (rw[Kl (h.trans (Kj c rfl ‹_› (by omega) ‹_›))];done))),(Qm (by (rw[Kl (h.trans (Kj c rfl ‹_› (by omega) ‹_›))];done))),trivial⟩ (h0:=by rw[← P,← Q,← R] <;> rfl)
abbrev DMv:=Int×Int×Int
abbrev DAr:=Int×Int×Bool×Int
def QfL (ls:List ZZ)(t:Int):ZZ:=(ls[t.toNat]?).getD (0,false)
theorem Qiw {ls:List ZZ}{t:Int}{y:ZZ}(h:ls[t.toNat]? =some y):QfL ls t=y:=by unfold QfL;rw[h];rfl
def Qnc (ls:List ZZ)(m:DMv):DAr:=(m.1,(QfL ls m.2.1).1,(QfL ls m.2.1).2,m.2.2)
def QQ (ls:List ZZ)(ms:List DMv):List DAr:=ms.map (Qnc ls)
def bv (l:List UInt8)(i:Nat):UInt8:=(l[i]?).getD 0
theorem Xd {l:List UInt8}{i:Nat}{c:UInt8}(h:l[i]? =some c):bv l i=c:=by unfold bv;rw[h];rfl
def agr (vs:List UInt8)(i j:Nat):List UInt8×Bool×Bool:=
 if bv vs i=bv vs j then (vs,true,false) else if bv vs i=0 then (vs.set i (bv vs j),true,true) else if bv vs j=0 then (vs.set j (bv vs i),true,true) else (vs,false,false)
def agb (vs:List UInt8)(i:Nat)(c:UInt8):List UInt8×Bool×Bool:=
 if bv vs i=c then (vs,true,false) else if bv vs i=0 then (vs.set i c,true,true) else (vs,false,false)
section
variable {vs vs':List UInt8}{i j k:Nat}{a b c:UInt8}
theorem QqV (d:vs[i]? =some a)(e:vs[j]? =some b):agr vs i j=if a=b then (vs,true,false) else if a=0 then (vs.set i b,true,true) else if b=0 then (vs.set j a,true,true) else (vs,false,false):=by
 unfold agr;rw[Xd d,Xd e]
theorem QkL (d:vs[i]? =some a):agb vs i c=if a=c then (vs,true,false) else if a=0 then (vs.set i c,true,true) else (vs,false,false):=by
 unfold agb;rw[Xd d]
theorem QtT (vs:List UInt8)(i j:Nat):(agr vs i j).1.length=vs.length:=by
 unfold agr;split <;> try rfl
 split <;> try simp
 split <;> simp
theorem Qh0 (vs:List UInt8)(i:Nat)(c:UInt8):(agb vs i c).1.length=vs.length:=by
 unfold agb;split <;> try rfl
 split <;> simp
def WR (vs:List UInt8):Nat:=(vs.filter fun c=>c=0).length
theorem Qrp (n:Nat):WR (List.replicate n 0)=n:=by simp[WR]
theorem QeB {l:List UInt8}(h:l[i]? =some 0)(d:c≠0):WR (l.set i c)+1=WR l:=by
 induction l generalizing i with
 | nil=>simp at h
 | cons x l e=>
  cases i with
  | zero=>
   simp only[cw,bp] at h
   subst h
   simp[WR,d]
  | succ i=>
   have:=e (i:=i) (by simpa using h)
   simp only[WR,List.set_cons_succ,List.filter_cons] at this ⊢
   split <;> simp_all
theorem QtS (m:i<vs.length)(o:j<vs.length):WR (agr vs i j).1≤WR vs∧((agr vs i j).2.2=true→WR (agr vs i j).1<WR vs)∧((agr vs i j).2.1=true→(agr vs i j).2.2=false→(agr vs i j).1=vs):=by
 have d:=ao m
 have e:=ao o
 rw[QqV d e]
 split
 ·simp
 ·rename_i l
  split
  ·rename_i g
   rw[g] at d l
   have:=QeB d (c:=vs[j]) (fun h=>l h.symm)
   simp;omega
  ·rename_i g
   split
   ·rename_i p
    rw[p] at e
    have:=QeB e g
    simp;omega
   ·simp
theorem Qna (e:i<vs.length)(h:c≠0):WR (agb vs i c).1≤WR vs∧((agb vs i c).2.2=true→WR (agb vs i c).1<WR vs)∧((agb vs i c).2.1=true→(agb vs i c).2.2=false→(agb vs i c).1=vs):=by
 have d:=ao e
 rw[QkL d]
 split
 ·simp
 ·split
  ·rename_i g
   rw[g] at d
   have:=QeB d h
   simp;omega
  ·simp
end
def Ha (sig:Int)(a:DAr)(vs:List UInt8):Option (List UInt8×Bool):=
 if a.2.1=sig then
  (if (agb vs a.1.toNat (if (!a.2.2.1) = true then 49 else 48)).2.1 = true ∧ (agb (agb vs a.1.toNat (if (!a.2.2.1) = true then 49 else 48)).1 a.2.2.2.toNat (if a.2.2.1 = true then 49 else 48)).2.1 = true then
   some ((agb (agb vs a.1.toNat (if (!a.2.2.1)=true then 49 else 48)).1 a.2.2.2.toNat (if a.2.2.1=true then 49 else 48)).1,(agb vs a.1.toNat (if (!a.2.2.1)=true then 49 else 48)).2.2||(agb (agb vs a.1.toNat (if (!a.2.2.1)=true then 49 else 48)).1 a.2.2.2.toNat (if a.2.2.1=true then 49 else 48)).2.2)
  else none)
 else if (agr vs a.1.toNat a.2.2.2.toNat).2.1=true then some ((agr vs a.1.toNat a.2.2.2.toNat).1,(agr vs a.1.toNat a.2.2.2.toNat).2.2) else none
def Ks (sig:Int):List DAr→List UInt8→Bool→Option (List UInt8×Bool)
 | [],vs,ch=>some (vs,ch)
 | a::rs,vs,ch=>match Ha sig a vs with
  | none=>none
  | some (vs',c)=>Ks sig rs vs' (ch||c)
def QbL (sig:Int)(arcs:List DAr):Nat→List UInt8→Option (List UInt8)
 | 0,vs=>some vs
 | f+1,vs=>match Ks sig arcs vs false with
  | none=>none
  | some (vs',ch)=>if ch=true then QbL sig arcs f vs' else some vs'
def QBC (sig:Int)(arcs:List DAr)(f:Nat):Option (List UInt8×Bool)→Option (List UInt8)
 | none=>none
 | some (vs',ch)=>if ch=true then QbL sig arcs f vs' else some vs'
def fz (c:UInt8):UInt8:=if c=0 then 48 else c
def Ui (n:Nat)(arcs:List DAr)(sig:Int):List UInt8×Bool:=match QbL sig arcs (n+1) (List.replicate n 0) with
 | none=>([],false)
 | some vs=>(vs.map fz,true)
def InR (n:Int)(a:DAr):Prop:=(0≤a.1∧a.1<n)∧0≤a.2.2.2∧a.2.2.2<n
section
variable {sig n:Int}{a:DAr}{vs vs':List UInt8}{arcs rs:List DAr}{ch ch' c:Bool}{f k:Nat}
theorem Qh5 (b:Bool):(if b=true then (49:UInt8) else 48)≠0:=by split <;> decide
theorem QaR (v:InR vs.length a)(h:Ha sig a vs=some (vs',c)):vs'.length=vs.length∧WR vs'≤WR vs∧(c=true→WR vs' < WR vs)∧(c=false→vs'=vs):=by
 obtain ⟨⟨w,x⟩,y,z⟩:=v
 unfold Ha at h
 have e:=Qh5 (!a.2.2.1)
 have g:=Qh5 a.2.2.1
 generalize (if (!a.2.2.1)=true then (49:UInt8) else 48)=f0 at h e
 generalize (if a.2.2.1=true then (49:UInt8) else 48)=t0 at h g
 have l:=Qna (vs:=vs) (i:=a.1.toNat) (c:=f0) (by omega) e
 have d:=Qna (vs:=(agb vs a.1.toNat f0).1) (i:=a.2.2.2.toNat) (c:=t0) (by rw[Qh0];omega) g
 have o:=QtS (vs:=vs) (i:=a.1.toNat) (j:=a.2.2.2.toNat) (by omega) (by omega)
 have r:=Qh0 vs a.1.toNat f0
 have q:=Qh0 (agb vs a.1.toNat f0).1 a.2.2.2.toNat t0
 have s:=QtT vs a.1.toNat a.2.2.2.toNat
 generalize agb (agb vs a.1.toNat f0).1 a.2.2.2.toNat t0=g2 at h d q
 generalize agb vs a.1.toNat f0=g1 at h l d r q
 generalize agr vs a.1.toNat a.2.2.2.toNat=g3 at h o s
 split at h
 ·split at h
  ·rename_i m
   simp only[bp,Prod.mk.injEq] at h
   obtain ⟨rfl,rfl⟩:=h
   refine ⟨q.trans r,bh d.1 l.1,fun p=> ?_,fun p=> ?_⟩
   ·rcases Bool.or_eq_true_iff.1 p with h|h
    ·exact Nat.lt_of_le_of_lt d.1 (l.2.1 h)
    ·exact ba (d.2.1 h) l.1
   ·obtain ⟨t,u⟩:=de.1 p
    rw[d.2.2 m.2 u,l.2.2 m.1 t]
  ·cases h
 ·split at h
  ·rename_i m
   simp only[bp,Prod.mk.injEq] at h
   obtain ⟨rfl,rfl⟩:=h
   exact ⟨s,o.1,o.2.1,o.2.2 m⟩
  ·cases h
theorem QfY {m:Nat}(o:∀a∈rs,InR m a)(d:vs.length=m)(h:Ks sig rs vs ch=some (vs',ch')):vs'.length=m∧WR vs'≤WR vs∧(ch'=true→ch=true∨WR vs' < WR vs)∧(ch'=false→vs'=vs∧ch=false):=by
 induction rs generalizing vs ch with
 | nil=>rw[Ks] at h;cases h;exact ⟨d,aO _,fun h=> .inl h,fun h=>⟨rfl,h⟩⟩
 | cons a rs z=>
  rw[Ks] at h
  cases g:Ha sig a vs with
  | none=>rw[g] at h;cases h
  | some r=>
   obtain ⟨D,c1⟩:=r
   rw[g] at h
   obtain ⟨v,l,w,x⟩:=QaR (by rw[d];exact o a (aB ..)) g
   obtain ⟨A,p,B,C⟩:=z (fun b y=>o b (aA _ y)) (v.trans d) h
   refine ⟨A,bh p l,fun e=> ?_,fun e=> ?_⟩
   ·rcases B e with h|h
    ·rcases Bool.or_eq_true_iff.1 h with h|h
     ·exact .inl h
     ·exact .inr (Nat.lt_of_le_of_lt p (w h))
    ·exact .inr (ba h l)
   ·obtain ⟨q,s⟩:=C e
    obtain ⟨t,u⟩:=de.1 s
    exact ⟨q.trans (x u),t⟩
theorem Qgk {n:Nat}(h:QbL sig arcs (n+1) (List.replicate n 0)=none):Ui n arcs sig=([],false):=by unfold Ui;rw[h]
theorem Qqr {n:Nat}(h:QbL sig arcs (n+1) (List.replicate n 0)=some vs):Ui n arcs sig=(vs.map fz,true):=by unfold Ui;rw[h]
def QBE (vs:List UInt8)(k:Nat):List UInt8:=(vs.take k).map fz++vs.drop k
end
theorem Z2 (s:Qgr)(t:s.length≤1000000):FC Tryz.prog 120 [(false,[.dat Ql s])] [] 0 (Xv 103 QI s):=by
 refine Qj Tryz.func120 rfl rfl Tryz.ntmps120 fun p g o h q m l=> ?_
 refine w6 ?_
 refine Qi5 (Qa rfl) Evl.val QcH rfl fun r d=> ?_
 refine w_ ?_
 refine cb_ (fun _=> ?_) fun _=> ?_
 refine w2 ?_
 refine lc (dBs 0 (e:=QI) WO) ?_
 refine w_ ?_
 refine lc (Zi 1 (Qa rfl) rfl (Evl.rep (Qa rfl)) rfl QcH Hp (by first|omega|(simp only[ah,aH,ap,av,aC];omega)|(simp only[ah,aX,ap,av,aC];omega)) rfl (Fresh.of rfl) (nlr rfl)) ?_
 refine w2 ?_
 refine Qe<|fo_ g ?_
 rfl
 refine w3 ?_
 refine AC.wk (Wk.nilS 2 2 103 QI rfl (Fresh.of rfl) (nlr rfl))<|Qe<|fo_ g ?_
 exact (d ‹_›).symm
def YP (sig:Int)(a:DAr)(us:List UInt8):Option (List UInt8):=
 if a.2.1=sig then
  (if (bv us a.1.toNat≠63∧bv us a.1.toNat≠(if (!a.2.2.1)=true then 49 else 48))∨(bv us a.2.2.2.toNat≠63∧bv us a.2.2.2.toNat≠(if a.2.2.1=true then 49 else 48)) then none
  else some ((us.set a.1.toNat (if (!a.2.2.1)=true then 49 else 48)).set a.2.2.2.toNat (if a.2.2.1=true then 49 else 48)))
 else if bv us a.1.toNat=63 then some ((us.set a.1.toNat (bv us a.2.2.2.toNat)).set a.2.2.2.toNat (bv us a.2.2.2.toNat))
 else if bv us a.2.2.2.toNat≠63∧bv us a.2.2.2.toNat≠bv us a.1.toNat then none
 else some ((us.set a.1.toNat (bv us a.1.toNat)).set a.2.2.2.toNat (bv us a.1.toNat))
def Xo (sig:Int):List DAr→List UInt8→Option (List UInt8)
 | [],us=>some us
 | a::rs,us=>match YP sig a us with
  | none=>none
  | some us'=>Xo sig rs us'
def Wt (sig:Int)(arcs:List DAr):Nat→List UInt8→Option (List UInt8)
 | 0,us=>some us
 | f+1,us=>match Xo sig arcs us with
  | none=>none
  | some us'=>Wt sig arcs f us'
def H1 (sig:Int)(arcs:List DAr)(f:Nat):Option (List UInt8)→Option (List UInt8)
 | none=>none
 | some us'=>Wt sig arcs f us'
def l5V (n:Nat)(arcs:List DAr)(sig:Int):ByteArray×Bool:=match Wt sig arcs (n+1) (List.replicate n 63) with
 | none=>(⟨#[]⟩,false)
 | some us=>(⟨us.toArray⟩,true)
section
variable {sig:Int}{a:DAr}{us us' vs vs':List UInt8}{arcs rs:List DAr}{f k m:Nat}{cf ct x:UInt8}{ch ch':Bool}{i j:Nat}
theorem W2 (b:arcs[k]? =some a)(h:YP sig a us=some us'):Xo sig (arcs.drop k) us=Xo sig (arcs.drop (k+1)) us':=by rw[Yr b,Xo,h]
theorem X3 (b:arcs[k]? =some a)(h:YP sig a us=none):Xo sig (arcs.drop k) us=none:=by rw[Yr b,Xo,h]
theorem QpT (b:arcs.length≤k):Xo sig (arcs.drop k) us=some us:=by rw[bR b,Xo]
theorem Qsb (f:Nat)(us:List UInt8):Wt sig arcs (f+1) us=H1 sig arcs f (Xo sig arcs us):=by
 rw[Wt];cases Xo sig arcs us <;> rfl
theorem Ub {n:Nat}(h:Wt sig arcs (n+1) (List.replicate n 63)=none):l5V n arcs sig=(⟨#[]⟩,false):=by unfold l5V;rw[h]
theorem Qiv {n:Nat}(h:Wt sig arcs (n+1) (List.replicate n 63)=some us):l5V n arcs sig=(⟨us.toArray⟩,true):=by unfold l5V;rw[h]
def qm (c:UInt8):UInt8:=if c=0 then 63 else c
def Kn (vs:List UInt8):Prop:=∀c∈vs,c=0∨c=48∨c=49
theorem Kn.set (h:Kn vs){c:UInt8}(e:c=0∨c=48∨c=49)(i:Nat):Kn (vs.set i c):=fun d g=>by
 rcases ck g with b|b
 ·exact h d b
 ·rw[b];exact e
theorem Kn.at (h:Kn vs)(hi:i<vs.length):∃c,vs[i]? =some c∧(c=0∨c=48∨c=49):=⟨_,ao hi,h _ (cH hi)⟩
theorem Kv {c:UInt8}(h:vs[i]? =some c):vs.set i c=vs:=by
 apply bM
 intro j
 by_cases e:i=j
 ·grind
 ·rw[be e]
theorem Qrj (hi:vs[i]? =some cf):bv (vs.map qm) i=qm cf:=Xd (by rw[bn,hi];rfl)
theorem QAR (b:Bool):((if b=true then (49:UInt8) else 48)=49∧(if (!b)=true then (49:UInt8) else 48)=48)∨((if b=true then (49:UInt8) else 48)=48∧(if (!b)=true then (49:UInt8) else 48)=49):=by cases b <;> simp
theorem QtR (b:i≠j)(c:UInt8)(h:vs[j]? =some ct):(agb vs i c).1[j]? =some ct:=by
 grind [agb,List.getElem?_set_ne]
theorem Qqh (b:Kn vs)(D:InR vs.length a)(h:a.2.1=sig→a.1≠a.2.2.2):YP sig a (vs.map qm)=(Ha sig a vs).map (fun r=>r.1.map qm)∧∀vs' c,Ha sig a vs=some (vs',c)→Kn vs':=by
 obtain ⟨⟨E,F⟩,G,H⟩:=D
 obtain ⟨cf,l,z⟩:=b.at (i:=a.1.toNat) (by omega)
 obtain ⟨ct,o,A⟩:=b.at (i:=a.2.2.2.toNat) (by omega)
 unfold YP Ha
 rw[Qrj l,Qrj o]
 by_cases n:a.2.1=sig
 ·rw[if_pos n,if_pos n]
  have g:a.1.toNat≠a.2.2.2.toNat:=by have:=h n;omega
  have C:=fun c=>QtR (vs:=vs) g c o
  rw[QkL (C _),QkL l]
  have y:∀c d:UInt8,((vs.map qm).set a.1.toNat c).set a.2.2.2.toNat d=((vs.map qm).set a.2.2.2.toNat d).set a.1.toNat c:=fun c d=>List.set_comm _ _ g
  have B:∀d,(vs.set a.2.2.2.toNat d)[a.1.toNat]? =some cf:=fun d=>by rw[be (Ne.symm g)];exact l
  have t:(vs.map qm)[a.1.toNat]? =some (qm cf):=by rw[bn,l];rfl
  have mt:(vs.map qm)[a.2.2.2.toNat]? =some (qm ct):=by rw[bn,o];rfl
  have u:∀d,((vs.map qm).set a.1.toNat d)[a.2.2.2.toNat]? =some (qm ct):=fun d=>by rw[be g];exact mt
  have p:=Kv t
  have q:=Kv mt
  have s:=fun d=>Kv (u d)
  rcases QAR a.2.2.1 with ⟨v,w⟩|⟨v,w⟩ <;> rw[v,w] <;> rcases z with rfl|rfl|rfl <;> rcases A with rfl|rfl|rfl <;> simp only[qm] at p q s ⊢ <;> simp[List.map_set,qm,p,q,s] at* <;> first|done|(refine ⟨?_,?_⟩ <;> first|(simp_all;done)|(intros;subst_vars;first|exact (b.set (.inr (.inl rfl)) _).set (.inr (.inr rfl)) _|exact (b.set (.inr (.inr rfl)) _).set (.inr (.inl rfl)) _|exact b.set (.inr (.inl rfl)) _|exact b.set (.inr (.inr rfl)) _|exact b))|(intros;subst_vars;first|exact (b.set (.inr (.inl rfl)) _).set (.inr (.inr rfl)) _|exact (b.set (.inr (.inr rfl)) _).set (.inr (.inl rfl)) _|exact b.set (.inr (.inl rfl)) _|exact b.set (.inr (.inr rfl)) _|exact b)|(simp_all;done)
 ·rw[if_neg n,if_neg n,QqV l o]
  have t:(vs.map qm)[a.1.toNat]? =some (qm cf):=by rw[bn,l];rfl
  have mt:(vs.map qm)[a.2.2.2.toNat]? =some (qm ct):=by rw[bn,o];rfl
  have p:=Kv t
  have q:=Kv mt
  have s:((vs.map qm).set a.1.toNat (qm ct)).set a.2.2.2.toNat (qm ct)=(vs.map qm).set a.1.toNat (qm ct):=by
   by_cases e:a.1.toNat=a.2.2.2.toNat
   ·rw[e,dt]
   ·exact Kv (by rw[be e];exact mt)
  rcases z with rfl|rfl|rfl <;> rcases A with rfl|rfl|rfl <;> simp only[qm] at p q s ⊢ <;> simp[List.map_set,qm,p,q,s] at* <;> first|done|(refine ⟨?_,?_⟩ <;> first|(simp_all;done)|(intros;subst_vars;first|exact b.set (.inr (.inl rfl)) _|exact b.set (.inr (.inr rfl)) _|exact b))|(intros;subst_vars;first|exact b.set (.inr (.inl rfl)) _|exact b.set (.inr (.inr rfl)) _|exact b)|(simp_all;done)
theorem QpU (l:∀a∈rs,InR m a)(o:∀a∈rs,a.2.1=sig→a.1≠a.2.2.2)(n:Kn vs)(g:vs.length=m):Xo sig rs (vs.map qm)=(Ks sig rs vs ch).map (fun r=>r.1.map qm)∧∀vs' c,Ks sig rs vs ch=some (vs',c)→Kn vs':=by
 induction rs generalizing vs ch with
 | nil=>exact ⟨rfl,fun vs' c h=>by rw[Ks] at h;cases h;exact n⟩
 | cons a rs s=>
  obtain ⟨p,q⟩:=Qqh n (by rw[g];exact l a (aB ..)) (o a (aB ..))
  rw[Xo,Ks,p]
  cases d:Ha sig a vs with
  | none=>exact ⟨rfl,fun vs' c h=>by cases h⟩
  | some r=>
   obtain ⟨t,c1⟩:=r
   exact s (fun b e=>l b (aA _ e)) (fun b e=>o b (aA _ e)) (q _ _ d) ((QaR (by rw[g];exact l a (aB ..)) d).1.trans g)
theorem Qhq (h:Xo sig arcs us=some us):∀f,Wt sig arcs f us=some us
 | 0=>rfl
 | f+1=>by rw[Wt,h];exact Qhq h f
theorem Qkq (c:∀a∈arcs,InR m a)(e:∀a∈arcs,a.2.1=sig→a.1≠a.2.2.2):∀{f:Nat} {vs:List UInt8},Kn vs→vs.length=m→WR vs<f→Wt sig arcs f (vs.map qm)=(QbL sig arcs f vs).map (List.map qm)∧∀vs',QbL sig arcs f vs=some vs'→Kn vs'
 | 0,_,_,_,h=>by omega
 | f+1,vs,hk,hl,h=>by
  obtain ⟨l,n⟩:=QpU (ch:=false) c e hk hl
  rw[Wt,QbL,l]
  cases d:Ks sig arcs vs false with
  | none=>exact ⟨rfl,fun vs' h=>by cases h⟩
  | some r=>
   obtain ⟨g,c1⟩:=r
   obtain ⟨o,q,p,s⟩:=QfY c hl d
   cases c1 with
   | true=>
    rcases p rfl with b|b
    ·cases b
    ·have b:WR g<WR vs:=b
     exact Qkq c e (n _ _ d) o (show WR g<f by omega)
   | false=>
    grind [Qhq]
theorem QtQ (vs:List UInt8)(i:Nat)(c:UInt8):agb vs i c=if bv vs i=c then (vs,true,false) else if bv vs i=0 then (vs.set i c,true,true) else (vs,false,false):=rfl
theorem Qm0 (c:a.2.1=sig)(b:a.1=a.2.2.2)(hi:a.1.toNat<vs.length):Ha sig a vs=none:=by
 unfold Ha
 rw[if_pos c,← b]
 have d:=Qh5 a.2.2.1
 have e:=Qh5 (!a.2.2.1)
 grind [bv,agb,QtQ,Xd,List.getElem?_set_self]
theorem QmV {b:DAr}(n:∀a∈rs,InR m a)(e:vs.length=m)(d:b∈rs)(l:b.2.1=sig)(h:b.1=b.2.2.2):Ks sig rs vs ch=none:=by
 induction rs generalizing vs ch with
 | nil=>cases d
 | cons a rs o=>
  have g:=n a (aB ..)
  rw[Ks]
  cases c:Ha sig a vs with
  | none=>rfl
  | some r=>
   obtain ⟨p,c1⟩:=r
   rcases aJ.1 d with rfl|d
   ·have:=g.1
    rw[Qm0 l h (by omega)] at c
    cases c
   ·grind [List.mem_cons_of_mem,QaR]
theorem Qqg (h:YP sig a us=some us'):us'.length=us.length:=by
 grind [YP]
theorem Qgd {c:UInt8}(h:YP sig a us=some us')(b:us[i]? =some c)(h0:c≠63):us'[i]? =some c:=by
 grind [List.getElem?_eq_some_iff,List.getElem?_set_self,List.getElem?_set_ne,YP,Xd]
theorem QmS {c:UInt8}(h:Xo sig rs us=some us')(d:us[i]? =some c)(h0:c≠63):us'[i]? =some c:=by
 induction rs generalizing us with
 | nil=>rw[Xo] at h;cases h;exact d
 | cons a rs e=>
  rw[Xo] at h
  cases b:YP sig a us with
  | none=>rw[b] at h;cases h
  | some g=>rw[b] at h;exact e h (Qgd b d h0)
theorem QmU {b:DAr}(e:b∈rs)(l:b.2.1=sig)(g:b.1=b.2.2.2)(hi:b.1.toNat<us.length)(h:Xo sig rs us=some us'):∃c,us'[b.1.toNat]? =some c∧c≠63:=by
 induction rs generalizing us with
 | nil=>cases e
 | cons a rs n=>
  rw[Xo] at h
  cases d:YP sig a us with
  | none=>rw[d] at h;cases h
  | some o=>
   rw[d] at h
   grind [YP,List.getElem?_set_self,QmS,Qqg]
theorem QmT {b:DAr}{c:UInt8}(d:b∈rs)(n:b.2.1=sig)(l:b.1=b.2.2.2)(g:us[b.1.toNat]? =some c)(h0:c≠63):Xo sig rs us=none:=by
 induction rs generalizing us with
 | nil=>cases d
 | cons a rs h=>
  rw[Xo]
  rcases aJ.1 d with rfl|d
  ·have:YP sig b us=none:=by
    grind [YP,Xd]
   rw[this]
  ·cases e:YP sig a us with
   | none=>rfl
   | some o=>exact h d (Qgd e g h0)
def q0 (c:UInt8):UInt8:=if c=63 then 48 else c
theorem QzT (d:Kn vs):(vs.map qm).map q0=vs.map fz:=by
 rw[du]
 refine List.map_congr_left fun c b=> ?_
 rcases d c b with rfl|rfl|rfl <;> rfl
theorem QfK {n:Nat}(s:∀a∈arcs,InR n a):((l5V n arcs sig).2=false∧(Ui n arcs sig).2=false∧l5V n arcs sig=(⟨#[]⟩,false)∧Ui n arcs sig=([],false))∨∃us:List UInt8,l5V n arcs sig=(⟨us.toArray⟩,true)∧us.length=n∧Ui n arcs sig=(us.map q0,true):=by
 by_cases d:∃b∈arcs,b.2.1=sig∧b.1=b.2.2.2
 ·obtain ⟨b,q,l,y⟩:=d
  have A:QbL sig arcs (n+1) (List.replicate n 0)=none:=by rw[QbL,QmV s (by simp) q l y]
  obtain ⟨⟨H,I⟩,_,_⟩:=s b q
  have z:Wt sig arcs (n+1) (List.replicate n 63)=none:=by
   obtain ⟨u,rfl⟩:∃u,n=u+1:=⟨n - 1,by omega⟩
   rw[Wt]
   cases p:Xo sig arcs (List.replicate (u+1) 63) with
   | none=>rfl
   | some G=>
    obtain ⟨c,g,o⟩:=QmU q l y (by simp;omega) p
    show Wt sig arcs (u+1) G=none
    rw[Wt,QmT q l y g o]
  exact .inl ⟨by rw[Ub z],by rw[Qgk A],Ub z,Qgk A⟩
 ·have E:∀a∈arcs,a.2.1=sig→a.1≠a.2.2.2:=fun a C g o=>d ⟨a,C,g,o⟩
  obtain ⟨g,o⟩:=Qkq (f:=n+1) (vs:=List.replicate n 0) s E (fun c D=> .inl (cQ D)) (by simp) (by rw[Qrp];omega)
  have e:(List.replicate n (0:UInt8)).map qm=List.replicate n 63:=by rw[List.map_replicate];rfl
  rw[e] at g
  cases t:QbL sig arcs (n+1) (List.replicate n 0) with
  | none=>
   grind [Ub,Qgk]
  | some vs=>
   rw[t] at g
   refine .inr ⟨vs.map qm,Qiv g,?_,?_⟩
   ·have:∀{f:Nat} {v w:List UInt8},v.length=n→QbL sig arcs f v=some w→w.length=n:=fun {f}=>by
     induction f with
     | zero=>intro v w l h;rw[QbL] at h;cases h;exact l
     | succ f F=>
      intro v w l h
      rw[QbL] at h
      cases p:Ks sig arcs v false with
      | none=>rw[p] at h;cases h
      | some r=>
       obtain ⟨J,c1⟩:=r
       rw[p] at h
       have B:=(QfY s l p).1
       cases c1 with
       | true=>exact F B h
       | false=>cases h;exact B
    rw[aH]
    exact this (by simp) t
   ·rw[Qqr t,QzT (o _ t)]
end
end Go.Proofs.YtjfpbcmfbnnooaaGreat
