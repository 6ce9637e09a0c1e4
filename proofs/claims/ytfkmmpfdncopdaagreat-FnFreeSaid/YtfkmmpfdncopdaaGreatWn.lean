/- Walks over abstract states: reachability. -/
import Derived.Test.YtfkmmpfdncopdaaGreatWk
set_option linter.unusedSimpArgs false
set_option linter.unusedVariables false
set_option linter.unusedSectionVars false
namespace Go.Proofs.YtfkmmpfdncopdaaGreat
open Go.RowKit
set_option maxRecDepth 100000
set_option maxHeartbeats 4000000
abbrev RS:=List ByteArray×List (Int×Int×Int)×List (Int×Int×Int)
abbrev Qe3:=Int×Int×Bool
def Yj (l:List ByteArray)(x:ByteArray):Int:=Zb (fun y=>decide (y=x)) l
def goT (n:YM)(k:Nat)(mk:ByteArray):List Int→RS→RS×Qe3
  | [],st=>(st,(-1, -1,true))
  | t :: ts,st=>
    if (ZX n mk t).2=false then (st,(k,t,false))
    else if 0≤Yj st.1 (ZX n mk t).1 then goT n k mk ts (st.1,st.2.1++[((k:Int),t,Yj st.1 (ZX n mk t).1)],st.2.2)
    else if st.1.length=300 then (st,(-1, -1,false))
    else goT n k mk ts (st.1++[(ZX n mk t).1],st.2.1++[((k:Int),t,(st.1.length:Int))],st.2.2++[((k:Int),t,(st.1.length:Int))])
def goK (n:YM):Nat→Nat→RS→RS×Qe3
  | 0,_,st=>(st,(-1, -1,true))
  | f+1,k,st=>match st.1[k]? with
    | none=>(st,(-1, -1,true))
    | some mk=>if (goT n k mk (VK n mk) st).2.2.2=true then goK n f (k+1) (goT n k mk (VK n mk) st).1 else goT n k mk (VK n mk) st
def Jg (n:YM)(f k:Nat)(r:RS×Qe3):RS×Qe3:=if r.2.2.2=true then goK n f (k+1) r.1 else r
def Zn (s:Zk):RS×Qe3:=goK s.1 301 0 ([s.2.2.2],[],[((0:Int),(0:Int),(0:Int))])
def exV (s:Zk):(List ByteArray×List (Int×Int×Int))×Int×Int×Bool:=(((Zn s).1.1,(Zn s).1.2.1),(Zn s).2)
def l4V (s:Zk):(List ByteArray×List (Int×Int×Int))×List (Int×Int×Int)×Int×Int×Bool:=
  (((Zn s).1.1,(Zn s).1.2.1),(Zn s).1.2.2,(if 0≤(Zn s).2.2.1 then (Zn s).2.1 else 0),(Zn s).2.2.1,(!(Zn s).2.2.2&&decide ((Zn s).2.2.1 < 0)))
def Qgs:List ByteArray×List (Int×Int×Int):=([],[])
section
variable [∀s,Decidable (StgOk s)]
def Qh (s:Zk):(List ByteArray×List (Int×Int×Int))×Bool:=if StgOk s∧(Zn s).2.2.2=true then (((Zn s).1.1,(Zn s).1.2.1),true) else (Qgs,false)
end
theorem QjF (l:List ByteArray)(x y:ByteArray):Yj (l++[y]) x=if 0≤Yj l x then Yj l x else if y=x then (l.length:Int) else -1:=by
  unfold Yj Zb
  rw[List.findIdx?_append]
  cases h:l.findIdx? (fun z=>decide (z=x)) with
  | some i=>simp
  | none=>
    by_cases e:y=x
    · simp[e]
    · simp[e]
def IdxOf (Qt:List ByteArray)(idx:List (ByteArray×Int)):Prop:=∀x,XT .str idx x=if 0≤Yj Qt x then some (Yj Qt x) else none
section
variable {Qt:List ByteArray}{idx:List (ByteArray×Int)}{x:ByteArray}{v b:List (Int×Int×Int)}{n:YM}{k f i:Nat}{mk:ByteArray}{t:Int}{ts:List Int}{r:ByteArray×Bool}{j:Int}{s:Zk}{e:Qe3}
theorem IdxOf.new (h:IdxOf Qt idx)(hs:(XT .str idx x).isSome=false):¬0≤Yj Qt x:=by
  rw[h x] at hs
  intro h0
  rw[if_pos h0] at hs; cases hs
theorem IdxOf.set (h:IdxOf Qt idx)(hs:(XT .str idx x).isSome=false):IdxOf (Qt++[x]) (VL .str idx x (Qt.length:Int)):=fun y=>by
  have h0:=h.new hs
  rw[WW,QjF,h y]
  by_cases e:x=y
  · subst e
    rw[if_pos ((Ty.beq_iff .str x x).2 rfl),if_neg h0,if_pos rfl,if_pos (Int.natCast_nonneg _)]
  · have : Ty.beq .str x y = false := cd.2 fun h => e ((Ty.beq_iff .str x y).1 h)
    rw[if_neg (show¬Ty.beq .str x y=true by rw[this]; decide),if_neg e]
    by_cases h1:0≤Yj Qt y
    · rw[if_pos h1,if_pos h1,if_pos h1]
    · rw[if_neg h1,if_neg h1,if_neg (by decide)]
theorem IdxOf.one (x:ByteArray):IdxOf [x] (VL .str ([]:List (ByteArray×Int)) x 0):=fun y=>by
  rw[WW]
  by_cases e:x=y
  · subst e
    rw[if_pos ((Ty.beq_iff .str x x).2 rfl)]
    simp[Yj,Zb]
  · have : Ty.beq .str x y = false := cd.2 fun h => e ((Ty.beq_iff .str x y).1 h)
    rw[if_neg (show¬Ty.beq .str x y=true by rw[this]; decide)]
    simp[Yj,Zb,e,XT]
theorem UH (hx:ts[i]? =some t)(hr:r=ZX n mk t)(hb:r.2=false):Jg n f k (goT n k mk (ts.drop i) (Qt,v,b))=((Qt,v,b),((k:Int),t,false)):=by
  subst hr
  rw[ZU hx,goT,if_pos hb]
  rfl
theorem Qia (hx:ts[i]? =some t)(hr:r=ZX n mk t)(hb:r.2=true)(hj:0≤Yj Qt r.1∧j=Yj Qt r.1):Jg n f k (goT n k mk (ts.drop i) (Qt,v,b))=Jg n f k (goT n k mk (ts.drop (i+1)) (Qt,v++[((k:Int),t,j)],b)):=by
  subst hr
  rw[ZU hx,goT,if_neg (by rw[hb]; decide),if_pos hj.1,hj.2]
theorem Vi (hx:ts[i]? =some t)(hr:r=ZX n mk t)(hb:r.2=true)(hj:¬0≤Yj Qt r.1)(hl:(Qt.length:Int)=300):Jg n f k (goT n k mk (ts.drop i) (Qt,v,b))=((Qt,v,b),(-1, -1,false)):=by
  subst hr
  rw[ZU hx,goT,if_neg (by rw[hb]; decide),if_neg hj,if_pos (show Qt.length=300 by omega)]
  rfl
theorem QhH (hx:ts[i]? =some t)(hr:r=ZX n mk t)(hb:r.2=true)(hj:¬0≤Yj Qt r.1)(hl:¬(Qt.length:Int)=300):Jg n f k (goT n k mk (ts.drop i) (Qt,v,b))=Jg n f k (goT n k mk (ts.drop (i+1)) (Qt++[r.1],v++[((k:Int),t,(Qt.length:Int))],b++[((k:Int),t,(Qt.length:Int))])):=by
  subst hr
  rw[ZU hx,goT,if_neg (by rw[hb]; decide),if_neg hj,if_neg (show¬Qt.length=300 by omega)]
theorem QmA (hi:ts.length≤i)(hk:k < 300):Jg n (300 - k) k (goT n k mk (ts.drop i) (Qt,v,b))=goK n (301 - (k+1)) (k+1) (Qt,v,b):=by
  rw[bw hi,goT,show 301 - (k+1)=300 - k by omega]
  rfl
theorem Qov (hx:Qt[k]? =some mk)(hk:k < 300):goK n (301 - k) k (Qt,v,b)=Jg n (300 - k) k (goT n k mk (VK n mk) (Qt,v,b)):=by
  rw[show 301 - k=(300 - k)+1 by omega,goK]
  simp only[hx]
  rfl
theorem Uw (hk:Qt.length≤k):goK n f k (Qt,v,b)=((Qt,v,b),(-1, -1,true)):=by
  cases f with
  | zero=>rfl
  | succ f=>
    rw[goK]
    simp only[bl hk]
theorem Qgf (h:Zn s=((Qt,v,b),e)):l4V s=((Qt,v),b,(if 0≤e.2.1 then e.1 else 0),e.2.1,(!e.2.2&&decide (e.2.1 < 0))):=by
  unfold l4V; rw[h]
theorem UL (h:Zn s=((Qt,v,b),((k:Int),t,false)))(h0:0≤t):l4V s=((Qt,v),b,(k:Int),t,false):=by
  rw[Qgf h]
  simp[h0]
theorem W4 (h:Zn s=((Qt,v,b),(-1, -1,false))):l4V s=((Qt,v),b,0, -1,true):=by
  rw[Qgf h]; rfl
theorem JU (h:Zn s=((Qt,v,b),(-1, -1,true))):l4V s=((Qt,v),b,0, -1,false):=by
  rw[Qgf h]; rfl
theorem Qkc {m:ByteArray}{n:Int}(h:KX m n){p:Int}(h0:0≤p)(h1:p < n):(0≤p∧p < m.size)∧(bAt m p=48∨bAt m p=49):=by
  obtain ⟨h2,h3⟩:=h
  have hp:p.toNat < m.size:=by omega
  refine ⟨⟨h0,by omega⟩, ?_⟩
  have e:bAt m p=m[p.toNat]:=by unfold bAt; rw[b5 m p.toNat hp]; rfl
  rw[e]
  rcases h2 p.toNat hp hp with h | h
  · exact .inl (UInt8.toNat_inj.1 h)
  · exact .inr (UInt8.toNat_inj.1 h)
theorem Qb8 {m:ByteArray}{n:Int}(h:KX m n){ps:List Int}(hr:Uj ps (n - 1)):Hv m ps:=fun p hp=>by
  obtain ⟨j,hj⟩:=aM.1 hp
  have:=(hr j (aj.1 hj).1 p hj).1
  exact Qkc h (by omega) (by omega)
theorem QoN (hv:YP n)(h:KX mk n.1):∀t∈n.2,Hv mk t.1∧Hv mk t.2:=fun t ht=>⟨Qb8 h (hv.2.2 t ht).2.1,Qb8 h (hv.2.2 t ht).2.2⟩
theorem XE (hx:(VK n mk)[i]? =some t):0≤t∧t < n.2.length:=by
  obtain ⟨x,h1,h2,_⟩:=QjO (ao hx)
  exact ⟨h1,h2⟩
theorem Qev (n:YM)(mk:ByteArray):(VK n mk).length≤n.2.length:=Qcz _ _ _
def LBits (l:List UInt8):Prop:=∀c∈l,c=48∨c=49
theorem LBits.set {l:List UInt8}(h:LBits l){c:UInt8}(hc:c=48∨c=49)(i:Nat):LBits (l.set i c):=fun d hd=>by
  rcases bX hd with h1 | h1
  · exact h d h1
  · rw[h1]; exact hc
theorem LBits.clr {l:List UInt8}(h:LBits l)(ps:List Int):LBits (clr l ps):=by
  induction ps generalizing l with
  | nil=>exact h
  | cons p ps ih=>exact ih (h.set (.inl rfl) _)
theorem LBits.put {l l':List UInt8}(h:LBits l){ps:List Int}(hp:Ui l ps=some l'):LBits l'∧l'.length=l.length:=by
  induction ps generalizing l with
  | nil=>rw[Ui] at hp; cases hp; exact ⟨h,rfl⟩
  | cons p ps ih=>
    rw[Ui] at hp
    split at hp
    · cases hp
    · obtain ⟨h1, h2⟩ := ih (h.set (.inr rfl) _) hp
      exact ⟨h1,by rw[h2,aA]⟩
theorem Qju {m:ByteArray}{n:Int}(h:KX m n):LBits m.toList:=fun c hc=>by
  rw[aZ] at hc
  obtain ⟨i,hi,e⟩:=List.getElem_of_mem hc
  have h2:i < m.size:=by simpa using hi
  have h3:=h.1 i h2 h2
  have h4:m[i]=c:=by rw[← e]; rfl
  rw[h4] at h3
  rcases h3 with h | h
  · exact .inl (UInt8.toNat_inj.1 h)
  · exact .inr (UInt8.toNat_inj.1 h)
theorem Qii {l:List UInt8}{n:Int}(h:LBits l)(hl:(l.length:Int)=n):KX ⟨l.toArray⟩ n:=by
  refine ⟨fun k hk hk'=> ?_,by rw[← hl]; rfl⟩
  have h1:(⟨l.toArray⟩:ByteArray)[k]∈l:=by
    show l.toArray[k]∈l
    simp
  rcases h _ h1 with h | h
  · exact .inl (by rw[h]; rfl)
  · exact .inr (by rw[h]; rfl)
theorem QbD (hm:KX mk n.1)(hr:r=ZX n mk t)(h:r.2=true):KX r.1 n.1:=by
  subst hr
  unfold ZX at h ⊢
  cases hx:n.2[t.toNat]? with
  | none=>rw[hx] at h; cases h
  | some x=>
    rw[hx] at h
    simp only at h ⊢
    unfold Um at h ⊢
    cases hp:Ui (clr mk.toList x.1) x.2 with
    | none=>rw[hp] at h; cases h
    | some l=>
      obtain ⟨h1,h2⟩:=((Qju hm).clr x.1).put hp
      refine Qii h1 ?_
      rw[h2,Qmj,YV]
      exact hm.2
theorem Qht {p:ByteArray→Prop}(h:∀m∈Qt,p m)(hx:p x):∀m∈Qt++[x],p m:=fun m hm=>by
  rcases aH.1 hm with h1 | h1
  · exact h m h1
  · rw[aE.1 h1]; exact hx
theorem Qk7 (h:Qt[k]? =some mk):(Qt++[x])[k]? =some mk:=by
  rw[b9 (aj.1 h).1]; exact h
end
theorem Qbr (Qt:List ByteArray)(m:ByteArray):FC Tryz.prog 291 [(false,[.dat (.sl 9 .str) Qt]),(false,[dS m])] [] 0 (QU (lI (Yj Qt m))):=by
 refine Qj Tryz.func291 rfl rfl Tryz.ntmps291 fun O_ hO w0_ N0_ X_ h0_ f0_=> ?_
 iterate 6 refine w_ ?_
 refine alL 7 fun hl1=> ?_
 iterate 4 refine w_ ?_
 refine lpK Qt.length (fun k=>NoneTo (fun y=>decide (y=m)) Qt k) (fun k=>⟨[(1,lf (dS m)),(7,lf (.dat (.sl 9 .str) Qt)),(8,lI (Qt.length:Int)),(9,lI (k:Int))],[]⟩) (NoneTo.zero) ?_ fun k hk2 hno=> ?_
 · exact Wk.of [] rfl ⟨rfl,rfl,rfl,rfl,trivial⟩ trivial rfl rfl
 iterate 4 refine w_ ?_
 cases hb3:(decide ((k:Int) < (Qt.length:Int)))
 ·have hb3':=ab hb3
  refine w_ ?_
  refine Qi ?_
  refine (?_:AC _ _ _ _ _)
  iterate 3 refine w_ ?_
  refine Qb<|fqI hO ?_
  first | exact (hno.no (by omega)).symm
 ·have hb3':=ae hb3
  iterate 6 refine w_ ?_
  obtain ⟨x4,hx5⟩:∃z,Qt[k]? =some z:=⟨_,aa (by omega)⟩
  iterate 10 refine w_ ?_
  cases hb6:(decide (x4=m))
  ·have hb6':=ab hb6
   refine w_ ?_
   refine AC.skip ?_
   refine (?_:AC _ _ _ _ _)
   iterate 3 refine w_ ?_
   refine Qd ?_
   refine lK_ (hno.step hx5 (by assumption)) ?_
   exact Wk.of [] rfl ⟨rfl,rfl,rfl,rfl,trivial⟩ trivial rfl rfl
  ·have hb6':=ae hb6
   iterate 5 refine w_ ?_
   refine Qb<|fqI hO ?_
   exact (hno.at hx5 (by assumption)).symm
theorem Ho (s:(Int×(List (List Int×List Int)))×(List (ByteArray×Int))×(List (Int×Bool))×ByteArray)(hs:StgOk s):FC Tryz.prog 234 [(true,[dI s.1.1, .dat (.sl 237 (.pr (.sl 3 .int) (.sl 3 .int))) s.1.2, .dat (.sl 203 (.pr .str .int)) s.2.1, .dat (.sl 120 (.pr .int .bool)) s.2.2.1,dS s.2.2.2])] [] 0 (Is (ag [.ref 0, .ref 1, .ref 2,dI ((l4V s).2.2.1),dI ((l4V s).2.2.2.1),dB ((l4V s).2.2.2.2)]) [ar 0 9 .str (((l4V s).1).1),ar 1 184 (.pr .int (.pr .int .int)) (((l4V s).1).2),ar 2 184 (.pr .int (.pr .int .int)) ((l4V s).2.1)]):=by
 have hnl:=hs.net.2.1
 refine Qj Tryz.func234 rfl rfl Tryz.ntmps234 fun O_ hO w0_ N0_ X_ h0_ f0_=> ?_
 refine acG 0 0 fun hi1=> ?_
 refine w_ ?_
 refine xbx 0 ?_
 refine lc (xal 1 (.pr (.pr (.sl 9 .str) (.sl 184 (.pr .int (.pr .int .int)))) (.pr (.sl 184 (.pr .int (.pr .int .int))) (.pr .int (.pr .int .bool)))) HE) ?_
 iterate 4 refine w_ ?_
 refine lc (dBs 2 (e:= .str) ZZ) ?_
 refine lc (Qn HQ ⟨_,_,rfl,(Qm rfl),rfl⟩ (aw.1 rfl) rfl rfl)<|lc (Qn HZ rfl (aw.1 rfl) rfl rfl) ?_
 refine lc (dBs 3 (e:=(.pr .int (.pr .int .int))) Vl (hab:=by exact ⟨_,_,_,_,rfl,⟨[dI 0],[dI 0,dI 0],_,_,_,_,rfl,rfl,⟨rfl,rfl⟩,⟨[dI 0],[dI 0],_,_,_,_,rfl,rfl,⟨rfl,rfl⟩,⟨rfl,rfl⟩,rfl⟩,rfl⟩,⟨rfl,rfl⟩,rfl⟩)) ?_
 refine lc (Qn QmM ⟨_,_,rfl,(Qm rfl),⟨_,_,rfl,(Qm rfl),⟨_,_,rfl,(Evl.ev (Ql rfl)),rfl⟩⟩⟩ (aw.1 rfl) rfl rfl)<|lc (xal 4 (.pr (.pr (.sl 9 .str) (.sl 184 (.pr .int (.pr .int .int)))) (.pr (.sl 184 (.pr .int (.pr .int .int))) (.pr .int (.pr .int .bool)))) HE) ?_
 iterate 7 refine w_ ?_
 refine AC.wk (QB 6 (p:=4) (off:=1) 184 (.pr .int (.pr .int .int)) rfl rfl (Fresh.of rfl) (nlr rfl)) ?_
 refine QE (fun m_ s_=>∃(k:Nat) (Qt:List ByteArray) (moves:List (Int×Int×Int)) (by_:List (Int×Int×Int)),k≤300∧m_=300 - k∧(Zn s=goK s.1 (301 - k) k (Qt,moves,by_))∧(∀m∈Qt,KX m s.1.1)∧(Qt.length≤300)∧(moves.length≤24*k)∧(by_.length≤24*k+1)∧s_=⟨[(1,lP 0 0),(2,lP 1 0),(3,lP 4 0),(4,lI (k:Int))],[bx 0 83 [dI s.1.1, .dat (.sl 237 (.pr (.sl 3 .int) (.sl 3 .int))) s.1.2, .dat (.sl 203 (.pr .str .int)) s.2.1, .dat (.sl 120 (.pr .int .bool)) s.2.2.1,dS s.2.2.2],bx 1 245 [.val (.slice none 0 0), .val (.slice none 0 0), .val (.slice none 0 0),dI 0,dI 0,dB false],bx 4 245 [.ref 5, .ref 7, .ref 8,dI 0,dI (-1),dB false],ar 5 9 .str Qt,ar 7 184 (.pr .int (.pr .int .int)) moves,ar 8 184 (.pr .int (.pr .int .int)) by_]⟩) ⟨0,[s.2.2.2],([]:((.sl 184 (.pr .int (.pr .int .int))):Ty).Den),[(0,0,0)],aS _,rfl,rfl,(by intro m hm; rw[aE.1 hm]; exact hs.bits),(aG rfl),(aG rfl),(aG rfl),rfl⟩ ?_ ?_
 · exact Wk.of [(5,2),(7,6),(8,3)] rfl ⟨rfl,rfl,rfl,rfl,trivial⟩ ⟨rfl,rfl,rfl,(Qk (by first | rfl | simp)),(Qk (by first | rfl | simp)),(Qk (by first | rfl | simp)),trivial⟩ rfl rfl
 rintro m_ s_ ⟨k,Qt,moves,by_,hk2,hm3,hA,hB,hl,hv,hy,rfl⟩
 iterate 9 refine w_ ?_
 cases hb4:(decide ((k:Int) < (Qt.length:Int)))
 ·have hb4':=ab hb4
  refine w_ ?_
  refine Qi ?_
  refine (?_:AC _ _ _ _ _)
  iterate 4 refine w_ ?_
  refine Qb ?_
  have e5:(0:Int)=((l4V s).2.2.1):=by
   (rw[JU (hA.trans (Uw (by omega)))]; done)
  have e6:((-1):Int)=((l4V s).2.2.2.1):=by
   (rw[JU (hA.trans (Uw (by omega)))]; done)
  have e7:(false:Bool)=((l4V s).2.2.2.2):=by
   (rw[JU (hA.trans (Uw (by omega)))]; done)
  exact fi_ [(0,5),(1,7),(2,8)] hO ⟨(Qk (by (rw[JU (hA.trans (Uw (by omega)))]; done))),(Qk (by (rw[JU (hA.trans (Uw (by omega)))]; done))),(Qk (by (rw[JU (hA.trans (Uw (by omega)))]; done))),trivial⟩ (h0:=(((congrArg (fun z_=>ag [.ref 5, .ref 7, .ref 8,dI z_,dI (-1),dB false]) e5)).trans (congrArg (fun z_=>ag [.ref 5, .ref 7, .ref 8,dI ((l4V s).2.2.1),dI z_,dB false]) e6)).trans (congrArg (fun z_=>ag [.ref 5, .ref 7, .ref 8,dI ((l4V s).2.2.1),dI ((l4V s).2.2.2.1),dB z_]) e7))
 ·have hb4':=ae hb4
  iterate 4 refine w_ ?_
  obtain ⟨mk,hx9⟩:∃z,Qt[k]? =some z:=⟨_,aa (by omega)⟩
  have hbm:=hB _ (ao hx9)
  have hnp:=QoN hs.net hbm
  have hel:=Qev s.1 mk
  apply dW (i6 25 _ _ _ _ _ _ (io 31 (lf (.ept 5 1 k 0)) :: io 32 (lf (dS mk)) :: io 33 (lf (.dat (.sl 3 .int) (VK s.1 mk))) :: i2 34 _ _ [])) [0,0,3,3,3,31,3,3,0,0,1023]
  iterate 6 refine z_ ?_
  refine zz (fun _ h_=>ac (ZD (e:= .str) (h_.v rfl) (h_.en 5 rfl) (h_.v rfl) ZE ZM rfl (by omega) (by first | omega | (simp only[aA]; omega))) rfl)<|zz (fun _ h_=>ac (Z9 (e:= .str) (h_.v rfl) (h_.n 5 rfl) hx9 rfl ZM rfl rfl) rfl) ?_
  refine zz (fun _ h_=>ac (dK (Jj s.1 mk hnp (by omega)).frozen QgG) rfl) ?_
  iterate 2 refine z_ ?_
  exact zN
  refine w_ ?_
  refine QE (fun m_ s_=>∃(i:Nat) (marks2:List ByteArray) (moves2:List (Int×Int×Int)) (by2:List (Int×Int×Int)),i≤(VK s.1 mk).length∧m_=(VK s.1 mk).length - i∧(Zn s=Jg s.1 (300 - k) k (goT s.1 k mk ((VK s.1 mk).drop i) (marks2,moves2,by2)))∧(∀m∈marks2,KX m s.1.1)∧(marks2.length≤300)∧(marks2[k]? =some mk)∧(moves2.length≤24*k+i)∧(by2.length≤24*k+1+i)∧s_=⟨[(1,lP 0 0),(2,lP 1 0),(3,lP 4 0),(4,lI (k:Int)),(17,lI (k:Int)),(18,lP 4 0),(19,lP 4 0),(21,lI (Qt.length:Int)),(22,lB true),(25,lP 0 0),(26,ag [dI s.1.1, .dat (.sl 237 (.pr (.sl 3 .int) (.sl 3 .int))) s.1.2]),(27,lP 4 0),(28,lP 4 0),(30,lI (k:Int)),(32,lf (dS mk)),(33,lf (.dat (.sl 3 .int) (VK s.1 mk))),(34,lI ((VK s.1 mk).length:Int)),(35,lI (i:Int))],[bx 0 83 [dI s.1.1, .dat (.sl 237 (.pr (.sl 3 .int) (.sl 3 .int))) s.1.2, .dat (.sl 203 (.pr .str .int)) s.2.1, .dat (.sl 120 (.pr .int .bool)) s.2.2.1,dS s.2.2.2],bx 1 245 [.val (.slice none 0 0), .val (.slice none 0 0), .val (.slice none 0 0),dI 0,dI 0,dB false],bx 4 245 [.ref 9, .ref 10, .ref 11,dI 0,dI (-1),dB false],ar 9 9 .str marks2,ar 10 184 (.pr .int (.pr .int .int)) moves2,ar 11 184 (.pr .int (.pr .int .int)) by2]⟩) ⟨0,Qt,moves,by_,aS _,rfl,hA.trans (Qov hx9 (by omega)),hB,hl,hx9,(by omega),(by omega),rfl⟩ ?_ ?_
  · exact Wk.of [(9,5),(10,7),(11,8)] rfl ⟨rfl,rfl,rfl,rfl,rfl,rfl,rfl,rfl,rfl,rfl,rfl,rfl,rfl,rfl,rfl,rfl,rfl,rfl,trivial⟩ ⟨rfl,rfl,rfl,rfl,rfl,rfl,trivial⟩ rfl rfl
  rintro m_ s_ ⟨i,marks2,moves2,by2,hk10,hm11,hA2,hB2,hl2,hM2,hv2,hy2,rfl⟩
  have hk2:=(aj.1 hM2).1
  iterate 4 refine w_ ?_
  cases hb12:(decide ((i:Int) < ((VK s.1 mk).length:Int)))
  ·have hb12':=ab hb12
   refine w_ ?_
   refine Qi ?_
   refine (?_:AC _ _ _ _ _)
   iterate 4 refine w_ ?_
   refine Qd<|Q5 ⟨k+1,marks2,moves2,by2,by omega,rfl,hA2.trans (QmA (by omega) (by omega)),hB2,hl2,(by omega),(by omega),rfl⟩ (by omega) ?_
   exact Wk.of [(5,9),(7,10),(8,11)] rfl ⟨rfl,rfl,rfl,rfl,trivial⟩ ⟨rfl,rfl,rfl,rfl,rfl,rfl,trivial⟩ rfl rfl
  ·have hb12':=ae hb12
   iterate 5 refine w_ ?_
   obtain ⟨x13,hx14⟩:∃z,(VK s.1 mk)[i]? =some z:=⟨_,aa (by omega)⟩
   iterate 2 refine w_ ?_
   refine alI 38 fun hi15=> ?_
   iterate 2 refine w_ ?_
   apply dW (i6 40 _ _ _ _ _ _ (io 46 (lf (.ept 9 1 k 0)) :: io 47 (lf (dS mk)) :: io 48 _ :: io 49 (PV.tup [(false,[dS ((ZX s.1 mk x13).1)]),(false,[dB ((ZX s.1 mk x13).2)])]) :: io 39 _ :: i2 50 _ _ (i2 7 _ _ []))) [0,0,3,3,3,31,3,3,255,0,0,0,2048,4096,0]
   iterate 6 refine z_ ?_
   refine zz (fun _ h_=>ac (ZD (e:= .str) (h_.v rfl) (h_.en 9 rfl) (h_.v rfl) ZE ZM rfl (by omega) (by first | omega | (simp only[aA]; omega))) rfl)<|zz (fun _ h_=>ac (Z9 (e:= .str) (h_.v rfl) (h_.n 9 rfl) hM2 rfl ZM rfl rfl) rfl) ?_
   refine z_ ?_
   refine zz (fun _ h_=>ac (dK (QaL s.1 mk x13 hnp (XE hx14)) Qfk) rfl) ?_
   iterate 5 refine z_ ?_
   exact zN
   iterate 5 refine w_ ?_
   cases hb16:((ZX s.1 mk x13).2)
   ·iterate 15 refine w_ ?_
    refine Qb ?_
    have e17:((k:Int):Int)=((l4V s).2.2.1):=by
     (rw[UL (hA2.trans (UH hx14 rfl (by assumption))) (XE hx14).1]; done)
    have e18:(x13:Int)=((l4V s).2.2.2.1):=by
     (rw[UL (hA2.trans (UH hx14 rfl (by assumption))) (XE hx14).1]; done)
    have e19:(false:Bool)=((l4V s).2.2.2.2):=by
     (rw[UL (hA2.trans (UH hx14 rfl (by assumption))) (XE hx14).1]; done)
    exact fi_ [(0,9),(1,10),(2,11)] hO ⟨(Qk (by (rw[UL (hA2.trans (UH hx14 rfl (by assumption))) (XE hx14).1]; done))),(Qk (by (rw[UL (hA2.trans (UH hx14 rfl (by assumption))) (XE hx14).1]; done))),(Qk (by (rw[UL (hA2.trans (UH hx14 rfl (by assumption))) (XE hx14).1]; done))),trivial⟩ (h0:=(((congrArg (fun z_=>ag [.ref 9, .ref 10, .ref 11,dI z_,dI x13,dB false]) e17)).trans (congrArg (fun z_=>ag [.ref 9, .ref 10, .ref 11,dI ((l4V s).2.2.1),dI z_,dB false]) e18)).trans (congrArg (fun z_=>ag [.ref 9, .ref 10, .ref 11,dI ((l4V s).2.2.1),dI ((l4V s).2.2.2.1),dB z_]) e19))
   ·iterate 7 refine w_ ?_
    refine lc (dB_ (Qbr marks2 ((ZX s.1 mk x13).1)) Qfx) ?_
    iterate 7 refine w_ ?_
    cases hb20:(decide ((Yj marks2 ((ZX s.1 mk x13).1)) < 0))
    ·have hb20':=ab hb20
     iterate 9 refine w_ ?_
     refine lc (Qn HZ ⟨_,_,rfl,(Qm rfl),⟨_,_,rfl,(Qm rfl),⟨_,_,rfl,(Qm rfl),rfl⟩⟩⟩ (aw.1 rfl) rfl rfl) ?_
     refine lc (dBs 12 (e:=(.pr .int (.pr .int .int))) Vl (hab:=by exact ⟨_,_,_,_,rfl,⟨[dI (k:Int)],[dI x13,dI (Yj marks2 ((ZX s.1 mk x13).1))],_,_,_,_,rfl,rfl,⟨rfl,rfl⟩,⟨[dI x13],[dI (Yj marks2 ((ZX s.1 mk x13).1))],_,_,_,_,rfl,rfl,⟨rfl,rfl⟩,⟨rfl,rfl⟩,rfl⟩,rfl⟩,⟨rfl,rfl⟩,rfl⟩)) ?_
     refine lc (dA 13 Qds) ?_
     iterate 3 refine w_ ?_
     refine Qd ?_
     refine (?_:AC _ _ _ _ _)
     iterate 3 refine w_ ?_
     refine Qd<|Q5 ⟨i+1,marks2,(moves2++([((k:Int),x13,Yj marks2 ((ZX s.1 mk x13).1))])),by2,by omega,rfl,by first | exact hA2.trans (Qia hx14 rfl (by assumption) ⟨by omega,rfl⟩) | exact hA2.trans (QhH hx14 rfl (by assumption) (by omega) (by assumption)),by first | exact hB2 | exact Qht hB2 (QbD (hB2 _ (ao hM2)) rfl (by assumption)),(by omega),by first | exact hM2 | exact Qk7 hM2,(by simp only[ak,aq,aD]; omega),(by omega),rfl⟩ (by omega) ?_
     exact Wk.of [(10,13)] rfl ⟨rfl,rfl,rfl,rfl,rfl,rfl,rfl,rfl,rfl,rfl,rfl,rfl,rfl,rfl,rfl,rfl,rfl,rfl,trivial⟩ ⟨rfl,rfl,rfl,rfl,(Qk (by first | rfl | simp)),rfl,trivial⟩ rfl rfl
    ·have hb20':=ae hb20
     iterate 9 refine w_ ?_
     cases hb21:(decide ((marks2.length:Int)=300))
     ·have hb21':=ab hb21
      iterate 14 refine w_ ?_
      refine lc (dBs 14 (e:= .str) ZZ) ?_
      refine lc (dA 15 YS) ?_
      iterate 10 refine w_ ?_
      refine lc (Qn HZ ⟨_,_,rfl,(Qm rfl),⟨_,_,rfl,(Qm rfl),⟨_,_,rfl,(Qm rfl),rfl⟩⟩⟩ (aw.1 rfl) rfl rfl) ?_
      refine lc (dBs 16 (e:=(.pr .int (.pr .int .int))) Vl (hab:=by exact ⟨_,_,_,_,rfl,⟨[dI (k:Int)],[dI x13,dI (marks2.length:Int)],_,_,_,_,rfl,rfl,⟨rfl,rfl⟩,⟨[dI x13],[dI (marks2.length:Int)],_,_,_,_,rfl,rfl,⟨rfl,rfl⟩,⟨rfl,rfl⟩,rfl⟩,rfl⟩,⟨rfl,rfl⟩,rfl⟩)) ?_
      refine lc (dA 17 Qds) ?_
      iterate 10 refine w_ ?_
      refine lc (Qn HZ ⟨_,_,rfl,(Qm rfl),⟨_,_,rfl,(Qm rfl),⟨_,_,rfl,(Qm rfl),rfl⟩⟩⟩ (aw.1 rfl) rfl rfl) ?_
      refine lc (dBs 18 (e:=(.pr .int (.pr .int .int))) Vl (hab:=by exact ⟨_,_,_,_,rfl,⟨[dI (k:Int)],[dI x13,dI (marks2.length:Int)],_,_,_,_,rfl,rfl,⟨rfl,rfl⟩,⟨[dI x13],[dI (marks2.length:Int)],_,_,_,_,rfl,rfl,⟨rfl,rfl⟩,⟨rfl,rfl⟩,rfl⟩,rfl⟩,⟨rfl,rfl⟩,rfl⟩)) ?_
      refine lc (dA 19 Qds) ?_
      iterate 3 refine w_ ?_
      refine Qd ?_
      refine (?_:AC _ _ _ _ _)
      iterate 3 refine w_ ?_
      refine Qd<|Q5 ⟨i+1,(marks2++([(ZX s.1 mk x13).1])),(moves2++([((k:Int),x13,(marks2.length:Int))])),(by2++([((k:Int),x13,(marks2.length:Int))])),by omega,rfl,by first | exact hA2.trans (Qia hx14 rfl (by assumption) ⟨by omega,rfl⟩) | exact hA2.trans (QhH hx14 rfl (by assumption) (by omega) (by assumption)),by first | exact hB2 | exact Qht hB2 (QbD (hB2 _ (ao hM2)) rfl (by assumption)),(by (simp only[ak,aq,aD]; omega)),by first | exact hM2 | exact Qk7 hM2,(by simp only[ak,aq,aD]; omega),(by (simp only[ak,aq,aD]; omega)),rfl⟩ (by omega) ?_
      exact Wk.of [(9,15),(10,19),(11,17)] rfl ⟨rfl,rfl,rfl,rfl,rfl,rfl,rfl,rfl,rfl,rfl,rfl,rfl,rfl,rfl,rfl,rfl,rfl,rfl,trivial⟩ ⟨rfl,rfl,rfl,(Qk (by first | rfl | simp)),(Qk (by first | rfl | simp)),(Qk (by first | rfl | simp)),trivial⟩ rfl rfl
     ·have hb21':=ae hb21
      iterate 9 refine w_ ?_
      refine Qb ?_
      have e22:(0:Int)=((l4V s).2.2.1):=by
       (rw[W4 (hA2.trans (Vi hx14 rfl (by assumption) (by omega) (by assumption)))]; done)
      have e23:((-1):Int)=((l4V s).2.2.2.1):=by
       (rw[W4 (hA2.trans (Vi hx14 rfl (by assumption) (by omega) (by assumption)))]; done)
      have e24:(true:Bool)=((l4V s).2.2.2.2):=by
       (rw[W4 (hA2.trans (Vi hx14 rfl (by assumption) (by omega) (by assumption)))]; done)
      exact fi_ [(0,9),(1,10),(2,11)] hO ⟨(Qk (by (rw[W4 (hA2.trans (Vi hx14 rfl (by assumption) (by omega) (by assumption)))]; done))),(Qk (by (rw[W4 (hA2.trans (Vi hx14 rfl (by assumption) (by omega) (by assumption)))]; done))),(Qk (by (rw[W4 (hA2.trans (Vi hx14 rfl (by assumption) (by omega) (by assumption)))]; done))),trivial⟩ (h0:=(((congrArg (fun z_=>ag [.ref 9, .ref 10, .ref 11,dI z_,dI (-1),dB true]) e22)).trans (congrArg (fun z_=>ag [.ref 9, .ref 10, .ref 11,dI ((l4V s).2.2.1),dI z_,dB true]) e23)).trans (congrArg (fun z_=>ag [.ref 9, .ref 10, .ref 11,dI ((l4V s).2.2.1),dI ((l4V s).2.2.2.1),dB z_]) e24))
end Go.Proofs.YtfkmmpfdncopdaaGreat
namespace Go.Proofs.YtfkmmpfdncopdaaGreat
open Go.RowKit
set_option maxRecDepth 100000
set_option maxHeartbeats 4000000
abbrev DMv:=Int×Int×Int
abbrev DAr:=Int×Int×Bool×Int
def Qbj (ls:List ZA)(t:Int):ZA:=(ls[t.toNat]?).getD (0,false)
theorem Qdc {ls:List ZA}{t:Int}{y:ZA}(h:ls[t.toNat]? =some y):Qbj ls t=y:=by unfold Qbj; rw[h]; rfl
def Qhk (ls:List ZA)(m:DMv):DAr:=(m.1,(Qbj ls m.2.1).1,(Qbj ls m.2.1).2,m.2.2)
def Qu (ls:List ZA)(ms:List DMv):List DAr:=ms.map (Qhk ls)
def bv (l:List UInt8)(i:Nat):UInt8:=(l[i]?).getD 0
theorem Z1 {l:List UInt8}{i:Nat}{c:UInt8}(h:l[i]? =some c):bv l i=c:=by unfold bv; rw[h]; rfl
def agr (vs:List UInt8)(i j:Nat):List UInt8×Bool×Bool:=
  if bv vs i=bv vs j then (vs,true,false) else if bv vs i=0 then (vs.set i (bv vs j),true,true) else if bv vs j=0 then (vs.set j (bv vs i),true,true) else (vs,false,false)
def agb (vs:List UInt8)(i:Nat)(c:UInt8):List UInt8×Bool×Bool:=
  if bv vs i=c then (vs,true,false) else if bv vs i=0 then (vs.set i c,true,true) else (vs,false,false)
section
variable {vs vs':List UInt8}{i j k:Nat}{a b c:UInt8}
theorem QkL (h1:vs[i]? =some a)(h2:vs[j]? =some b):agr vs i j=if a=b then (vs,true,false) else if a=0 then (vs.set i b,true,true) else if b=0 then (vs.set j a,true,true) else (vs,false,false):=by
  unfold agr; rw[Z1 h1,Z1 h2]
theorem Qfl (h1:vs[i]? =some a):agb vs i c=if a=c then (vs,true,false) else if a=0 then (vs.set i c,true,true) else (vs,false,false):=by
  unfold agb; rw[Z1 h1]
theorem Qmv (vs:List UInt8)(i j:Nat):(agr vs i j).1.length=vs.length:=by
  unfold agr; split <;> try rfl
  split <;> try simp
  split <;> simp
theorem QcY (vs:List UInt8)(i:Nat)(c:UInt8):(agb vs i c).1.length=vs.length:=by
  unfold agb; split <;> try rfl
  split <;> simp
def XL (vs:List UInt8):Nat:=(vs.filter fun c=>c=0).length
theorem QlJ (n:Nat):XL (List.replicate n 0)=n:=by simp[XL]
theorem Qa0 {l:List UInt8}(h:l[i]? =some 0)(hc:c≠0):XL (l.set i c)+1=XL l:=by
  induction l generalizing i with
  | nil=>simp at h
  | cons x l ih=>
    cases i with
    | zero=>
      simp only[bK,bk] at h
      subst h
      simp[XL,hc]
    | succ i=>
      have:=ih (i:=i) (by simpa using h)
      simp only[XL,cE,d7] at this ⊢
      split <;> simp_all
theorem Qm3 (h1:i < vs.length)(h2:j < vs.length):XL (agr vs i j).1≤XL vs∧((agr vs i j).2.2=true→XL (agr vs i j).1 < XL vs)∧((agr vs i j).2.1=true→(agr vs i j).2.2=false→(agr vs i j).1=vs):=by
  have e1:=aa h1
  have e2:=aa h2
  rw[QkL e1 e2]
  split
  · simp
  · rename_i h3
    split
    · rename_i h4
      rw[h4] at e1 h3
      have:=Qa0 e1 (c:=vs[j]) (fun h=>h3 h.symm)
      simp; omega
    · rename_i h4
      split
      · rename_i h5
        rw[h5] at e2
        have:=Qa0 e2 h4
        simp; omega
      · simp
theorem Qid (h1:i < vs.length)(hc:c≠0):XL (agb vs i c).1≤XL vs∧((agb vs i c).2.2=true→XL (agb vs i c).1 < XL vs)∧((agb vs i c).2.1=true→(agb vs i c).2.2=false→(agb vs i c).1=vs):=by
  have e1:=aa h1
  rw[Qfl e1]
  split
  · simp
  · split
    · rename_i h4
      rw[h4] at e1
      have:=Qa0 e1 hc
      simp; omega
    · simp
end
def VR (sig:Int)(a:DAr)(vs:List UInt8):Option (List UInt8×Bool):=
  if a.2.1=sig then
    (if (agb vs a.1.toNat (if (!a.2.2.1)=true then 49 else 48)).2.1=true∧(agb (agb vs a.1.toNat (if (!a.2.2.1)=true then 49 else 48)).1 a.2.2.2.toNat (if a.2.2.1=true then 49 else 48)).2.1=true then
      some ((agb (agb vs a.1.toNat (if (!a.2.2.1)=true then 49 else 48)).1 a.2.2.2.toNat (if a.2.2.1=true then 49 else 48)).1,(agb vs a.1.toNat (if (!a.2.2.1)=true then 49 else 48)).2.2||(agb (agb vs a.1.toNat (if (!a.2.2.1)=true then 49 else 48)).1 a.2.2.2.toNat (if a.2.2.1=true then 49 else 48)).2.2)
    else none)
  else if (agr vs a.1.toNat a.2.2.2.toNat).2.1=true then some ((agr vs a.1.toNat a.2.2.2.toNat).1,(agr vs a.1.toNat a.2.2.2.toNat).2.2) else none
def W7 (sig:Int):List DAr→List UInt8→Bool→Option (List UInt8×Bool)
  | [],vs,ch=>some (vs,ch)
  | a :: rs,vs,ch=>match VR sig a vs with
    | none=>none
    | some (vs',c)=>W7 sig rs vs' (ch||c)
def K2 (sig:Int)(arcs:List DAr):Nat→List UInt8→Option (List UInt8)
  | 0,vs=>some vs
  | f+1,vs=>match W7 sig arcs vs false with
    | none=>none
    | some (vs',ch)=>if ch=true then K2 sig arcs f vs' else some vs'
def Qrp (sig:Int)(arcs:List DAr)(f:Nat):Option (List UInt8×Bool)→Option (List UInt8)
  | none=>none
  | some (vs',ch)=>if ch=true then K2 sig arcs f vs' else some vs'
def fz (c:UInt8):UInt8:=if c=0 then 48 else c
def We (n:Nat)(arcs:List DAr)(sig:Int):List UInt8×Bool:=match K2 sig arcs (n+1) (List.replicate n 0) with
  | none=>([],false)
  | some vs=>(vs.map fz,true)
def InR (n:Int)(a:DAr):Prop:=(0≤a.1∧a.1 < n)∧0≤a.2.2.2∧a.2.2.2 < n
section
variable {sig n:Int}{a:DAr}{vs vs':List UInt8}{arcs rs:List DAr}{ch ch' c:Bool}{f k:Nat}
theorem QdM (b:Bool):(if b=true then (49:UInt8) else 48)≠0:=by split <;> decide
theorem Kz (hr:InR vs.length a)(h:VR sig a vs=some (vs',c)):vs'.length=vs.length∧XL vs'≤XL vs∧(c=true→XL vs' < XL vs)∧(c=false→vs'=vs):=by
  obtain ⟨⟨r1,r2⟩,r3,r4⟩:=hr
  unfold VR at h
  have hf0:=QdM (!a.2.2.1)
  have ht0:=QdM a.2.2.1
  generalize (if (!a.2.2.1)=true then (49:UInt8) else 48)=f0 at h hf0
  generalize (if a.2.2.1=true then (49:UInt8) else 48)=t0 at h ht0
  have k1:=Qid (vs:=vs) (i:=a.1.toNat) (c:=f0) (by omega) hf0
  have k2:=Qid (vs:=(agb vs a.1.toNat f0).1) (i:=a.2.2.2.toNat) (c:=t0) (by rw[QcY]; omega) ht0
  have k3:=Qm3 (vs:=vs) (i:=a.1.toNat) (j:=a.2.2.2.toNat) (by omega) (by omega)
  have l1:=QcY vs a.1.toNat f0
  have l2:=QcY (agb vs a.1.toNat f0).1 a.2.2.2.toNat t0
  have l3:=Qmv vs a.1.toNat a.2.2.2.toNat
  generalize agb (agb vs a.1.toNat f0).1 a.2.2.2.toNat t0=g2 at h k2 l2
  generalize agb vs a.1.toNat f0=g1 at h k1 k2 l1 l2
  generalize agr vs a.1.toNat a.2.2.2.toNat=g3 at h k3 l3
  split at h
  · split at h
    · rename_i h1
      simp only[bk,Prod.mk.injEq] at h
      obtain ⟨rfl,rfl⟩:=h
      refine ⟨l2.trans l1,bn k2.1 k1.1,fun hc=> ?_,fun hc=> ?_⟩
      · rcases Bool.or_eq_true_iff.1 hc with h | h
        · exact Nat.lt_of_le_of_lt k2.1 (k1.2.1 h)
        · exact be (k2.2.1 h) k1.1
      · obtain ⟨e1, e2⟩ := cM.1 hc
        rw[k2.2.2 h1.2 e2,k1.2.2 h1.1 e1]
    · cases h
  · split at h
    · rename_i h1
      simp only[bk,Prod.mk.injEq] at h
      obtain ⟨rfl,rfl⟩:=h
      exact ⟨l3,k3.1,k3.2.1,k3.2.2 h1⟩
    · cases h
theorem QbB {m:Nat}(hr:∀a∈rs,InR m a)(hl:vs.length=m)(h:W7 sig rs vs ch=some (vs',ch')):vs'.length=m∧XL vs'≤XL vs∧(ch'=true→ch=true∨XL vs' < XL vs)∧(ch'=false→vs'=vs∧ch=false):=by
  induction rs generalizing vs ch with
  | nil=>rw[W7] at h; cases h; exact ⟨hl,aO _,fun h=> .inl h,fun h=>⟨rfl,h⟩⟩
  | cons a rs ih=>
    rw[W7] at h
    cases hs:VR sig a vs with
    | none=>rw[hs] at h; cases h
    | some r=>
      obtain ⟨v1,c1⟩:=r
      rw[hs] at h
      obtain ⟨h1,h2,h3,h4⟩:=Kz (by rw[hl]; exact hr a (ay ..)) hs
      obtain ⟨k1,k2,k3,k4⟩:=ih (fun b hb=>hr b (ax _ hb)) (h1.trans hl) h
      refine ⟨k1,bn k2 h2,fun e=> ?_,fun e=> ?_⟩
      · rcases k3 e with h | h
        · rcases Bool.or_eq_true_iff.1 h with h | h
          · exact .inl h
          · exact .inr (Nat.lt_of_le_of_lt k2 (h3 h))
        · exact .inr (be h h2)
      · obtain ⟨e1, e2⟩ := k4 e
        obtain ⟨e3,e4⟩:=cM.1 e2
        exact ⟨e1.trans (h4 e4),e3⟩
theorem Je {n:Nat}(h:K2 sig arcs (n+1) (List.replicate n 0)=none):We n arcs sig=([],false):=by unfold We; rw[h]
theorem Qjm {n:Nat}(h:K2 sig arcs (n+1) (List.replicate n 0)=some vs):We n arcs sig=(vs.map fz,true):=by unfold We; rw[h]
def Qrq (vs:List UInt8)(k:Nat):List UInt8:=(vs.take k).map fz++vs.drop k
end
end Go.Proofs.YtfkmmpfdncopdaaGreat
namespace Go.Proofs.YtfkmmpfdncopdaaGreat
open Go.RowKit
set_option maxRecDepth 100000
set_option maxHeartbeats 4000000
def Yg (sig:Int)(a:DAr)(us:List UInt8):Option (List UInt8):=
  if a.2.1=sig then
    (if (bv us a.1.toNat≠63∧bv us a.1.toNat≠(if (!a.2.2.1)=true then 49 else 48))∨(bv us a.2.2.2.toNat≠63∧bv us a.2.2.2.toNat≠(if a.2.2.1=true then 49 else 48)) then none
    else some ((us.set a.1.toNat (if (!a.2.2.1)=true then 49 else 48)).set a.2.2.2.toNat (if a.2.2.1=true then 49 else 48)))
  else if bv us a.1.toNat=63 then some ((us.set a.1.toNat (bv us a.2.2.2.toNat)).set a.2.2.2.toNat (bv us a.2.2.2.toNat))
  else if bv us a.2.2.2.toNat≠63∧bv us a.2.2.2.toNat≠bv us a.1.toNat then none
  else some ((us.set a.1.toNat (bv us a.1.toNat)).set a.2.2.2.toNat (bv us a.1.toNat))
def Yz (sig:Int):List DAr→List UInt8→Option (List UInt8)
  | [],us=>some us
  | a :: rs,us=>match Yg sig a us with
    | none=>none
    | some us'=>Yz sig rs us'
def Xl (sig:Int)(arcs:List DAr):Nat→List UInt8→Option (List UInt8)
  | 0,us=>some us
  | f+1,us=>match Yz sig arcs us with
    | none=>none
    | some us'=>Xl sig arcs f us'
def U6 (sig:Int)(arcs:List DAr)(f:Nat):Option (List UInt8)→Option (List UInt8)
  | none=>none
  | some us'=>Xl sig arcs f us'
def l5V (n:Nat)(arcs:List DAr)(sig:Int):ByteArray×Bool:=match Xl sig arcs (n+1) (List.replicate n 63) with
  | none=>(⟨#[]⟩,false)
  | some us=>(⟨us.toArray⟩,true)
section
variable {sig:Int}{a:DAr}{us us' vs vs':List UInt8}{arcs rs:List DAr}{f k m:Nat}{cf ct x:UInt8}{ch ch':Bool}{i j:Nat}
theorem XD (hx:arcs[k]? =some a)(h:Yg sig a us=some us'):Yz sig (arcs.drop k) us=Yz sig (arcs.drop (k+1)) us':=by rw[ZU hx,Yz,h]
theorem YZ (hx:arcs[k]? =some a)(h:Yg sig a us=none):Yz sig (arcs.drop k) us=none:=by rw[ZU hx,Yz,h]
theorem QiY (hk:arcs.length≤k):Yz sig (arcs.drop k) us=some us:=by rw[bw hk,Yz]
theorem QkP (f:Nat)(us:List UInt8):Xl sig arcs (f+1) us=U6 sig arcs f (Yz sig arcs us):=by
  rw[Xl]; cases Yz sig arcs us <;> rfl
theorem XW {n:Nat}(h:Xl sig arcs (n+1) (List.replicate n 63)=none):l5V n arcs sig=(⟨#[]⟩,false):=by unfold l5V; rw[h]
theorem QdU {n:Nat}(h:Xl sig arcs (n+1) (List.replicate n 63)=some us):l5V n arcs sig=(⟨us.toArray⟩,true):=by unfold l5V; rw[h]
def qm (c:UInt8):UInt8:=if c=0 then 63 else c
def Kn (vs:List UInt8):Prop:=∀c∈vs,c=0∨c=48∨c=49
theorem Kn.set (h:Kn vs){c:UInt8}(hc:c=0∨c=48∨c=49)(i:Nat):Kn (vs.set i c):=fun d hd=>by
  rcases bX hd with h1 | h1
  · exact h d h1
  · rw[h1]; exact hc
theorem Kn.at (h:Kn vs)(hi:i < vs.length):∃c,vs[i]? =some c∧(c=0∨c=48∨c=49):=⟨_,aa hi,h _ (cN hi)⟩
theorem W8 {c:UInt8}(h:vs[i]? =some c):vs.set i c=vs:=by
  apply bt
  intro j
  by_cases e:i=j
  · subst e; rw[aU (aj.1 h).1,h]
  · rw[aY e]
theorem Qlv (hi:vs[i]? =some cf):bv (vs.map qm) i=qm cf:=Z1 (by rw[bo,hi]; rfl)
theorem QqH (b:Bool):((if b=true then (49:UInt8) else 48)=49∧(if (!b)=true then (49:UInt8) else 48)=48)∨((if b=true then (49:UInt8) else 48)=48∧(if (!b)=true then (49:UInt8) else 48)=49):=by cases b <;> simp
theorem Qmr (hne:i≠j)(c:UInt8)(h:vs[j]? =some ct):(agb vs i c).1[j]? =some ct:=by
  unfold agb
  split
  · exact h
  · split
    · show (vs.set i c)[j]? = _
      rw[aY hne]; exact h
    · exact h
theorem QiI (hk:Kn vs)(hr:InR vs.length a)(hself:a.2.1=sig→a.1≠a.2.2.2):Yg sig a (vs.map qm)=(VR sig a vs).map (fun r=>r.1.map qm)∧∀vs' c,VR sig a vs=some (vs',c)→Kn vs':=by
  obtain ⟨⟨r1,r2⟩,r3,r4⟩:=hr
  obtain ⟨cf,hf,kf⟩:=hk.at (i:=a.1.toNat) (by omega)
  obtain ⟨ct,ht,kt⟩:=hk.at (i:=a.2.2.2.toNat) (by omega)
  unfold Yg VR
  rw[Qlv hf,Qlv ht]
  by_cases hl:a.2.1=sig
  · rw [if_pos hl, if_pos hl]
    have hne:a.1.toNat≠a.2.2.2.toNat:=by have:=hself hl; omega
    have hg:=fun c=>Qmr (vs:=vs) hne c ht
    rw[Qfl (hg _),Qfl hf]
    have hset:∀c d:UInt8,((vs.map qm).set a.1.toNat c).set a.2.2.2.toNat d=((vs.map qm).set a.2.2.2.toNat d).set a.1.toNat c:=fun c d=>List.set_comm _ _ hne
    have hf2:∀d,(vs.set a.2.2.2.toNat d)[a.1.toNat]? =some cf:=fun d=>by rw[aY (Ne.symm hne)]; exact hf
    have mf:(vs.map qm)[a.1.toNat]? =some (qm cf):=by rw[bo,hf]; rfl
    have mt:(vs.map qm)[a.2.2.2.toNat]? =some (qm ct):=by rw[bo,ht]; rfl
    have mt2:∀d,((vs.map qm).set a.1.toNat d)[a.2.2.2.toNat]? =some (qm ct):=fun d=>by rw[aY hne]; exact mt
    have s1:=W8 mf
    have s2:=W8 mt
    have s3:=fun d=>W8 (mt2 d)
    rcases QqH a.2.2.1 with ⟨e1,e2⟩ | ⟨e1,e2⟩ <;> rw[e1,e2] <;> rcases kf with rfl | rfl | rfl <;> rcases kt with rfl | rfl | rfl <;> simp only[qm] at s1 s2 s3 ⊢ <;> simp[List.map_set,qm,s1,s2,s3] at* <;> first | done | (refine ⟨?_, ?_⟩ <;> first | (simp_all; done) | (intros; subst_vars; first | exact (hk.set (.inr (.inl rfl)) _).set (.inr (.inr rfl)) _ | exact (hk.set (.inr (.inr rfl)) _).set (.inr (.inl rfl)) _ | exact hk.set (.inr (.inl rfl)) _ | exact hk.set (.inr (.inr rfl)) _ | exact hk)) | (intros; subst_vars; first | exact (hk.set (.inr (.inl rfl)) _).set (.inr (.inr rfl)) _ | exact (hk.set (.inr (.inr rfl)) _).set (.inr (.inl rfl)) _ | exact hk.set (.inr (.inl rfl)) _ | exact hk.set (.inr (.inr rfl)) _ | exact hk) | (simp_all; done)
  · rw [if_neg hl, if_neg hl, QkL hf ht]
    have mf:(vs.map qm)[a.1.toNat]? =some (qm cf):=by rw[bo,hf]; rfl
    have mt:(vs.map qm)[a.2.2.2.toNat]? =some (qm ct):=by rw[bo,ht]; rfl
    have s1:=W8 mf
    have s2:=W8 mt
    have s3:((vs.map qm).set a.1.toNat (qm ct)).set a.2.2.2.toNat (qm ct)=(vs.map qm).set a.1.toNat (qm ct):=by
      by_cases e:a.1.toNat=a.2.2.2.toNat
      · rw[e,db]
      · exact W8 (by rw[aY e]; exact mt)
    rcases kf with rfl | rfl | rfl <;> rcases kt with rfl | rfl | rfl <;> simp only[qm] at s1 s2 s3 ⊢ <;> simp[List.map_set,qm,s1,s2,s3] at* <;> first | done | (refine ⟨?_, ?_⟩ <;> first | (simp_all; done) | (intros; subst_vars; first | exact hk.set (.inr (.inl rfl)) _ | exact hk.set (.inr (.inr rfl)) _ | exact hk)) | (intros; subst_vars; first | exact hk.set (.inr (.inl rfl)) _ | exact hk.set (.inr (.inr rfl)) _ | exact hk) | (simp_all; done)
theorem QjN (hr:∀a∈rs,InR m a)(hs:∀a∈rs,a.2.1=sig→a.1≠a.2.2.2)(hk:Kn vs)(hl:vs.length=m):Yz sig rs (vs.map qm)=(W7 sig rs vs ch).map (fun r=>r.1.map qm)∧∀vs' c,W7 sig rs vs ch=some (vs',c)→Kn vs':=by
  induction rs generalizing vs ch with
  | nil=>exact ⟨rfl,fun vs' c h=>by rw[W7] at h; cases h; exact hk⟩
  | cons a rs ih=>
    obtain ⟨h1,h2⟩:=QiI hk (by rw[hl]; exact hr a (ay ..)) (hs a (ay ..))
    rw[Yz,W7,h1]
    cases hst:VR sig a vs with
    | none=>exact ⟨rfl,fun vs' c h=>by cases h⟩
    | some r=>
      obtain ⟨v1,c1⟩:=r
      exact ih (fun b hb=>hr b (ax _ hb)) (fun b hb=>hs b (ax _ hb)) (h2 _ _ hst) ((Kz (by rw[hl]; exact hr a (ay ..)) hst).1.trans hl)
theorem QcA (h:Yz sig arcs us=some us):∀f,Xl sig arcs f us=some us
  | 0=>rfl
  | f+1=>by rw[Xl,h]; exact QcA h f
theorem QeI (hr:∀a∈arcs,InR m a)(hs:∀a∈arcs,a.2.1=sig→a.1≠a.2.2.2):∀{f:Nat} {vs:List UInt8},Kn vs→vs.length=m→XL vs < f→Xl sig arcs f (vs.map qm)=(K2 sig arcs f vs).map (List.map qm)∧∀vs',K2 sig arcs f vs=some vs'→Kn vs'
  | 0,_,_,_,h=>by omega
  | f+1,vs,hk,hl,h=>by
    obtain ⟨h1,h2⟩:=QjN (ch:=false) hr hs hk hl
    rw[Xl,K2,h1]
    cases hp:W7 sig arcs vs false with
    | none=>exact ⟨rfl,fun vs' h=>by cases h⟩
    | some r=>
      obtain ⟨v1,c1⟩:=r
      obtain ⟨k1,k2,k3,k4⟩:=QbB hr hl hp
      cases c1 with
      | true=>
        rcases k3 rfl with h3 | h3
        · cases h3
        · have h3 : XL v1 < XL vs := h3
          exact QeI hr hs (h2 _ _ hp) k1 (show XL v1 < f by omega)
      | false=>
        obtain ⟨rfl,_⟩:=k4 rfl
        rw[hp] at h1
        exact ⟨QcA h1 f,fun vs' h=>by cases h; exact hk⟩
theorem Qh2 (vs:List UInt8)(i:Nat)(c:UInt8):agb vs i c=if bv vs i=c then (vs,true,false) else if bv vs i=0 then (vs.set i c,true,true) else (vs,false,false):=rfl
theorem Qgv (hl:a.2.1=sig)(he:a.1=a.2.2.2)(hi:a.1.toNat < vs.length):VR sig a vs=none:=by
  unfold VR
  rw[if_pos hl,← he]
  have h0:=QdM a.2.2.1
  have h1:=QdM (!a.2.2.1)
  have h2:(if (!a.2.2.1)=true then (49:UInt8) else 48)≠(if a.2.2.1=true then 49 else 48):=by cases a.2.2.1 <;> decide
  generalize (if (!a.2.2.1)=true then (49:UInt8) else 48)=f0 at h1 h2 ⊢
  generalize (if a.2.2.1=true then (49:UInt8) else 48)=t0 at h0 h2 ⊢
  rw[if_neg]
  rintro ⟨k1,k2⟩
  have k3:bv (agb vs a.1.toNat f0).1 a.1.toNat=f0:=by
    rw[Qh2] at k1 ⊢
    split
    · assumption
    · rename_i h3
      rw[if_neg h3] at k1
      split
      · exact Z1 (aU hi)
      · rename_i h4
        rw[if_neg h4] at k1
        cases k1
  rw[Qh2 (agb vs a.1.toNat f0).1,k3,if_neg h2,if_neg h1] at k2
  cases k2
theorem QgQ {b:DAr}(hr:∀a∈rs,InR m a)(hlen:vs.length=m)(hm:b∈rs)(hl:b.2.1=sig)(he:b.1=b.2.2.2):W7 sig rs vs ch=none:=by
  induction rs generalizing vs ch with
  | nil=>cases hm
  | cons a rs ih=>
    have ha:=hr a (ay ..)
    rw[W7]
    cases hst:VR sig a vs with
    | none=>rfl
    | some r=>
      obtain ⟨v1,c1⟩:=r
      rcases aC.1 hm with rfl | hm
      · have := ha.1
        rw[Qgv hl he (by omega)] at hst
        cases hst
      · exact ih (fun b hb=>hr b (ax _ hb)) ((Kz (by rw[hlen]; exact ha) hst).1.trans hlen) hm
theorem Qi3 (h:Yg sig a us=some us'):us'.length=us.length:=by
  unfold Yg at h
  generalize (if (!a.2.2.1)=true then (49:UInt8) else 48)=f0 at h
  generalize (if a.2.2.1=true then (49:UInt8) else 48)=t0 at h
  split at h
  · split at h
    · cases h
    · cases h; simp
  · split at h
    · cases h; simp
    · split at h
      · cases h
      · cases h; simp
theorem QaV {c:UInt8}(h:Yg sig a us=some us')(hc:us[i]? =some c)(h0:c≠63):us'[i]? =some c:=by
  have hi:=(aj.1 hc).1
  have hset:∀x y:UInt8,(i=a.2.2.2.toNat→y=c)→(i=a.1.toNat→x=c)→((us.set a.1.toNat x).set a.2.2.2.toNat y)[i]? =some c:=fun x y h1 h2=>by
    by_cases e1:a.2.2.2.toNat=i
    · rw[e1,aU (by simpa using hi),h1 e1.symm]
    · rw [aY e1]
      by_cases e2:a.1.toNat=i
      · rw[e2,aU hi,h2 e2.symm]
      · rw[aY e2]; exact hc
  unfold Yg at h
  generalize (if (!a.2.2.1)=true then (49:UInt8) else 48)=f0 at h
  generalize (if a.2.2.1=true then (49:UInt8) else 48)=t0 at h
  split at h
  · split at h
    · cases h
    · rename_i h2
      cases h
      refine hset _ _ (fun e=> ?_) (fun e=> ?_)
      · rw [← e, Z1 hc] at h2
        exact bN fun h3=>h2 (.inr ⟨h0,fun e=>h3 e.symm⟩)
      · rw [← e, Z1 hc] at h2
        exact bN fun h3=>h2 (.inl ⟨h0,fun e=>h3 e.symm⟩)
  · split at h
    · rename_i h2
      cases h
      refine hset _ _ (fun e=> ?_) (fun e=> ?_)
      · rw[← e,Z1 hc]
      · rw[← e,Z1 hc] at h2; exact absurd h2 h0
    · split at h
      · cases h
      · rename_i h2 h3
        cases h
        refine hset _ _ (fun e=> ?_) (fun e=> ?_)
        · rw [← e, Z1 hc] at h3
          exact bN fun h4=>h3 ⟨h0,fun e=>h4 e.symm⟩
        · rw[← e,Z1 hc]
theorem QfZ {c:UInt8}(h:Yz sig rs us=some us')(hc:us[i]? =some c)(h0:c≠63):us'[i]? =some c:=by
  induction rs generalizing us with
  | nil=>rw[Yz] at h; cases h; exact hc
  | cons a rs ih=>
    rw[Yz] at h
    cases hst:Yg sig a us with
    | none=>rw[hst] at h; cases h
    | some u1=>rw[hst] at h; exact ih h (QaV hst hc h0)
theorem Qfq {b:DAr}(hm:b∈rs)(hl:b.2.1=sig)(he:b.1=b.2.2.2)(hi:b.1.toNat < us.length)(h:Yz sig rs us=some us'):∃c,us'[b.1.toNat]? =some c∧c≠63:=by
  induction rs generalizing us with
  | nil=>cases hm
  | cons a rs ih=>
    rw[Yz] at h
    cases hst:Yg sig a us with
    | none=>rw[hst] at h; cases h
    | some u1=>
      rw[hst] at h
      rcases aC.1 hm with rfl | hm
      · have h2:u1[b.1.toNat]? =some (if b.2.2.1=true then 49 else 48):=by
          unfold Yg at hst
          rw[if_pos hl] at hst
          generalize (if (!b.2.2.1)=true then (49:UInt8) else 48)=f0 at hst
          generalize (if b.2.2.1=true then (49:UInt8) else 48)=t0 at hst ⊢
          split at hst
          · cases hst
          · cases hst
            rw[← he,aU (by simpa using hi)]
        have h3:(if b.2.2.1=true then (49:UInt8) else 48)≠63:=by cases b.2.2.1 <;> decide
        exact ⟨_,QfZ h h2 h3,h3⟩
      · exact ih hm (by rw[Qi3 hst]; exact hi) h
theorem Qgn {b:DAr}{c:UInt8}(hm:b∈rs)(hl:b.2.1=sig)(he:b.1=b.2.2.2)(hc:us[b.1.toNat]? =some c)(h0:c≠63):Yz sig rs us=none:=by
  induction rs generalizing us with
  | nil=>cases hm
  | cons a rs ih=>
    rw[Yz]
    rcases aC.1 hm with rfl | hm
    · have:Yg sig b us=none:=by
        unfold Yg
        rw[if_pos hl,← he,Z1 hc,if_pos]
        have h2:(if (!b.2.2.1)=true then (49:UInt8) else 48)≠(if b.2.2.1=true then 49 else 48):=by cases b.2.2.1 <;> decide
        by_cases e:c=(if (!b.2.2.1)=true then (49:UInt8) else 48)
        · exact .inr ⟨h0,fun e2=>h2 (e.symm.trans e2)⟩
        · exact .inl ⟨h0,e⟩
      rw[this]
    · cases hst : Yg sig a us with
      | none=>rfl
      | some u1=>exact ih hm (QaV hst hc h0)
def q0 (c:UInt8):UInt8:=if c=63 then 48 else c
theorem Qp4 (hk:Kn vs):(vs.map qm).map q0=vs.map fz:=by
  rw[dc]
  refine List.map_congr_left fun c hc=> ?_
  rcases hk c hc with rfl | rfl | rfl <;> rfl
theorem Qaq {n:Nat}(hr:∀a∈arcs,InR n a):((l5V n arcs sig).2=false∧(We n arcs sig).2=false∧l5V n arcs sig=(⟨#[]⟩,false)∧We n arcs sig=([],false))∨∃us:List UInt8,l5V n arcs sig=(⟨us.toArray⟩,true)∧us.length=n∧We n arcs sig=(us.map q0,true):=by
  by_cases hself:∃b∈arcs,b.2.1=sig∧b.1=b.2.2.2
  · obtain ⟨b, hb, hl, he⟩ := hself
    have hV:K2 sig arcs (n+1) (List.replicate n 0)=none:=by rw[K2,QgQ hr (by simp) hb hl he]
    obtain ⟨⟨r1,r2⟩,_,_⟩:=hr b hb
    have hS:Xl sig arcs (n+1) (List.replicate n 63)=none:=by
      obtain ⟨n',rfl⟩:∃n',n=n'+1:=⟨n - 1,by omega⟩
      rw[Xl]
      cases hp:Yz sig arcs (List.replicate (n'+1) 63) with
      | none=>rfl
      | some u1=>
        obtain ⟨c,h1,h2⟩:=Qfq hb hl he (by simp; omega) hp
        show Xl sig arcs (n'+1) u1=none
        rw[Xl,Qgn hb hl he h1 h2]
    exact .inl ⟨by rw[XW hS],by rw[Je hV],XW hS,Je hV⟩
  · have hs : ∀ a ∈ arcs, a.2.1 = sig → a.1 ≠ a.2.2.2 := fun a ha h1 h2 => hself ⟨a, ha, h1, h2⟩
    obtain ⟨h1,h2⟩:=QeI (f:=n+1) (vs:=List.replicate n 0) hr hs (fun c hc=> .inl (cw hc)) (by simp) (by rw[QlJ]; omega)
    have e:(List.replicate n (0:UInt8)).map qm=List.replicate n 63:=by rw[List.map_replicate]; rfl
    rw[e] at h1
    cases hv:K2 sig arcs (n+1) (List.replicate n 0) with
    | none=>
      rw[hv] at h1
      exact .inl ⟨by rw[XW h1],by rw[Je hv],XW h1,Je hv⟩
    | some vs=>
      rw[hv] at h1
      refine .inr ⟨vs.map qm,QdU h1, ?_, ?_⟩
      · have:∀{f:Nat} {v v':List UInt8},v.length=n→K2 sig arcs f v=some v'→v'.length=n:=fun {f}=>by
          induction f with
          | zero=>intro v v' hl h; rw[K2] at h; cases h; exact hl
          | succ f ih=>
            intro v v' hl h
            rw[K2] at h
            cases hp:W7 sig arcs v false with
            | none=>rw[hp] at h; cases h
            | some r=>
              obtain ⟨v1,c1⟩:=r
              rw[hp] at h
              have k1:=(QbB hr hl hp).1
              cases c1 with
              | true=>exact ih k1 h
              | false=>cases h; exact k1
        rw[aQ]
        exact this (by simp) hv
      · rw[Qjm hv,Qp4 (h2 _ hv)]
end
end Go.Proofs.YtfkmmpfdncopdaaGreat
