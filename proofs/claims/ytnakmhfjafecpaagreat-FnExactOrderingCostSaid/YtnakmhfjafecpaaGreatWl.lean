/- Walks over abstract states: reachability. -/
import Derived.Test.YtnakmhfjafecpaaGreatWk
set_option linter.unusedSimpArgs false
set_option linter.unusedVariables false
set_option linter.unusedSectionVars false
namespace Go.Proofs.YtnakmhfjafecpaaGreat
open Go.RowKit
set_option maxRecDepth 100000
set_option maxHeartbeats 4000000
abbrev RS:=List ByteArray×List (Int×Int×Int)×List (Int×Int×Int)
abbrev QgJ:=Int×Int×Bool
def ZQ (l:List ByteArray)(x:ByteArray):Int:=ZH (fun y=>decide (y=x)) l
def goT (n:Y0)(k:Nat)(mk:ByteArray):List Int→RS→RS×QgJ
  | [],st=>(st,(-1, -1,true))
  | t :: ts,st=>
    if (Zy n mk t).2=false then (st,(k,t,false))
    else if 0≤ZQ st.1 (Zy n mk t).1 then goT n k mk ts (st.1,st.2.1++[((k:Int),t,ZQ st.1 (Zy n mk t).1)],st.2.2)
    else if st.1.length=300 then (st,(-1, -1,false))
    else goT n k mk ts (st.1++[(Zy n mk t).1],st.2.1++[((k:Int),t,(st.1.length:Int))],st.2.2++[((k:Int),t,(st.1.length:Int))])
def goK (n:Y0):Nat→Nat→RS→RS×QgJ
  | 0,_,st=>(st,(-1, -1,true))
  | f+1,k,st=>match st.1[k]? with
    | none=>(st,(-1, -1,true))
    | some mk=>if (goT n k mk (Q4 n mk) st).2.2.2=true then goK n f (k+1) (goT n k mk (Q4 n mk) st).1 else goT n k mk (Q4 n mk) st
def Jr (n:Y0)(f k:Nat)(r:RS×QgJ):RS×QgJ:=if r.2.2.2=true then goK n f (k+1) r.1 else r
def ZM (s:Q5):RS×QgJ:=goK s.1 301 0 ([s.2.2.2],[],[((0:Int),(0:Int),(0:Int))])
def exV (s:Q5):(List ByteArray×List (Int×Int×Int))×Int×Int×Bool:=(((ZM s).1.1,(ZM s).1.2.1),(ZM s).2)
def l4V (s:Q5):(List ByteArray×List (Int×Int×Int))×List (Int×Int×Int)×Int×Int×Bool:=
  (((ZM s).1.1,(ZM s).1.2.1),(ZM s).1.2.2,(if 0≤(ZM s).2.2.1 then (ZM s).2.1 else 0),(ZM s).2.2.1,(!(ZM s).2.2.2&&decide ((ZM s).2.2.1 < 0)))
def Qiq:List ByteArray×List (Int×Int×Int):=([],[])
section
variable [∀s,Decidable (StgOk s)]
def Qc (s:Q5):(List ByteArray×List (Int×Int×Int))×Bool:=if StgOk s∧(ZM s).2.2.2=true then (((ZM s).1.1,(ZM s).1.2.1),true) else (Qiq,false)
end
theorem QkM (l:List ByteArray)(x y:ByteArray):ZQ (l++[y]) x=if 0≤ZQ l x then ZQ l x else if y=x then (l.length:Int) else -1:=by
  unfold ZQ ZH
  rw[List.findIdx?_append]
  cases h:l.findIdx? (fun z=>decide (z=x)) with
  | some i=>simp
  | none=>
    by_cases e:y=x
    · simp[e]
    · simp[e]
def IdxOf (QK:List ByteArray)(idx:List (ByteArray×Int)):Prop:=∀x,XE .str idx x=if 0≤ZQ QK x then some (ZQ QK x) else none
section
variable {QK:List ByteArray}{idx:List (ByteArray×Int)}{x:ByteArray}{v b:List (Int×Int×Int)}{n:Y0}{k f i:Nat}{mk:ByteArray}{t:Int}{ts:List Int}{r:ByteArray×Bool}{j:Int}{s:Q5}{e:QgJ}
theorem IdxOf.old (h:IdxOf QK idx)(hs:(XE .str idx x).isSome=true):0≤ZQ QK x∧(XE .str idx x).getD (Ty.zero .int)=ZQ QK x:=by
  rw[h x] at hs ⊢
  by_cases h0:0≤ZQ QK x
  · rw[if_pos h0]; exact ⟨h0,rfl⟩
  · rw[if_neg h0] at hs; cases hs
theorem IdxOf.new (h:IdxOf QK idx)(hs:(XE .str idx x).isSome=false):¬0≤ZQ QK x:=by
  rw[h x] at hs
  intro h0
  rw[if_pos h0] at hs; cases hs
theorem IdxOf.set (h:IdxOf QK idx)(hs:(XE .str idx x).isSome=false):IdxOf (QK++[x]) (Y6 .str idx x (QK.length:Int)):=fun y=>by
  have h0:=h.new hs
  rw[Qek,QkM,h y]
  by_cases e:x=y
  · subst e
    rw[if_pos ((Ty.beq_iff .str x x).2 rfl),if_neg h0,if_pos rfl,if_pos (Int.natCast_nonneg _)]
  · have : Ty.beq .str x y = false := Bool.eq_false_iff.2 fun h => e ((Ty.beq_iff .str x y).1 h)
    rw[if_neg (show¬Ty.beq .str x y=true by rw[this]; decide),if_neg e]
    by_cases h1:0≤ZQ QK y
    · rw[if_pos h1,if_pos h1,if_pos h1]
    · rw[if_neg h1,if_neg h1,if_neg (by decide)]
theorem IdxOf.one (x:ByteArray):IdxOf [x] (Y6 .str ([]:List (ByteArray×Int)) x 0):=fun y=>by
  rw[Qek]
  by_cases e:x=y
  · subst e
    rw[if_pos ((Ty.beq_iff .str x x).2 rfl)]
    simp[ZQ,ZH]
  · have : Ty.beq .str x y = false := Bool.eq_false_iff.2 fun h => e ((Ty.beq_iff .str x y).1 h)
    rw[if_neg (show¬Ty.beq .str x y=true by rw[this]; decide)]
    simp[ZQ,ZH,e,XE]
theorem XJ (hx:ts[i]? =some t)(hr:r=Zy n mk t)(hb:r.2=false):Jr n f k (goT n k mk (ts.drop i) (QK,v,b))=((QK,v,b),((k:Int),t,false)):=by
  subst hr
  rw[ZS hx,goT,if_pos hb]
  rfl
theorem Qa6 (hx:ts[i]? =some t)(hr:r=Zy n mk t)(hb:r.2=true)(hj:0≤ZQ QK r.1∧j=ZQ QK r.1):Jr n f k (goT n k mk (ts.drop i) (QK,v,b))=Jr n f k (goT n k mk (ts.drop (i+1)) (QK,v++[((k:Int),t,j)],b)):=by
  subst hr
  rw[ZS hx,goT,if_neg (by rw[hb]; decide),if_pos hj.1,hj.2]
theorem YR (hx:ts[i]? =some t)(hr:r=Zy n mk t)(hb:r.2=true)(hj:¬0≤ZQ QK r.1)(hl:(QK.length:Int)=300):Jr n f k (goT n k mk (ts.drop i) (QK,v,b))=((QK,v,b),(-1, -1,false)):=by
  subst hr
  rw[ZS hx,goT,if_neg (by rw[hb]; decide),if_neg hj,if_pos (show QK.length=300 by omega)]
  rfl
theorem Qbp (hx:ts[i]? =some t)(hr:r=Zy n mk t)(hb:r.2=true)(hj:¬0≤ZQ QK r.1)(hl:¬(QK.length:Int)=300):Jr n f k (goT n k mk (ts.drop i) (QK,v,b))=Jr n f k (goT n k mk (ts.drop (i+1)) (QK++[r.1],v++[((k:Int),t,(QK.length:Int))],b++[((k:Int),t,(QK.length:Int))])):=by
  subst hr
  rw[ZS hx,goT,if_neg (by rw[hb]; decide),if_neg hj,if_neg (show¬QK.length=300 by omega)]
theorem QiV (hi:ts.length≤i)(hk:k < 300):Jr n (300 - k) k (goT n k mk (ts.drop i) (QK,v,b))=goK n (301 - (k+1)) (k+1) (QK,v,b):=by
  rw[List.drop_eq_nil_of_le hi,goT,show 301 - (k+1)=300 - k by omega]
  rfl
theorem QmR (hx:QK[k]? =some mk)(hk:k < 300):goK n (301 - k) k (QK,v,b)=Jr n (300 - k) k (goT n k mk (Q4 n mk) (QK,v,b)):=by
  rw[show 301 - k=(300 - k)+1 by omega,goK]
  simp only[hx]
  rfl
theorem XK (hk:QK.length≤k):goK n f k (QK,v,b)=((QK,v,b),(-1, -1,true)):=by
  cases f with
  | zero=>rfl
  | succ f=>
    rw[goK]
    simp only[List.getElem?_eq_none hk]
theorem Xh (h:∃b,ZM s=((QK,v,b),e)):exV s=((QK,v),e):=by
  obtain ⟨b,h⟩:=h
  unfold exV; rw[h]
theorem Qiu (h:ZM s=((QK,v,b),e)):l4V s=((QK,v),b,(if 0≤e.2.1 then e.1 else 0),e.2.1,(!e.2.2&&decide (e.2.1 < 0))):=by
  unfold l4V; rw[h]
theorem KK (h:ZM s=((QK,v,b),((k:Int),t,false)))(h0:0≤t):l4V s=((QK,v),b,(k:Int),t,false):=by
  rw[Qiu h]
  simp[h0]
theorem Uq (h:ZM s=((QK,v,b),(-1, -1,false))):l4V s=((QK,v),b,0, -1,true):=by
  rw[Qiu h]; rfl
theorem Qar (h:ZM s=((QK,v,b),(-1, -1,true))):l4V s=((QK,v),b,0, -1,false):=by
  rw[Qiu h]; rfl
theorem Ql0 {m:ByteArray}{n:Int}(h:XW m n){p:Int}(h0:0≤p)(h1:p < n):(0≤p∧p < m.size)∧(bAt m p=48∨bAt m p=49):=by
  obtain ⟨h2,h3⟩:=h
  have hp:p.toNat < m.size:=by omega
  refine ⟨⟨h0,by omega⟩, ?_⟩
  have e:bAt m p=m[p.toNat]:=by unfold bAt; rw[getElem?_pos m p.toNat hp]; rfl
  rw[e]
  rcases h2 p.toNat hp hp with h | h
  · exact .inl (UInt8.toNat_inj.1 h)
  · exact .inr (UInt8.toNat_inj.1 h)
theorem Qez {m:ByteArray}{n:Int}(h:XW m n){ps:List Int}(hr:QaD ps (n - 1)):VS m ps:=fun p hp=>by
  obtain ⟨j,hj⟩:=List.mem_iff_getElem?.1 hp
  have:=(hr j (List.getElem?_eq_some_iff.1 hj).1 p hj).1
  exact Ql0 h (by omega) (by omega)
theorem Qhf (hv:QcN n)(h:XW mk n.1):∀t∈n.2,VS mk t.1∧VS mk t.2:=fun t ht=>⟨Qez h (hv.2.2 t ht).2.1,Qez h (hv.2.2 t ht).2.2⟩
theorem ZG (hx:(Q4 n mk)[i]? =some t):ZE n mk t=Zy n mk t:=by
  obtain ⟨x,h1,h2,h3,h4,h5⟩:=Qam (List.mem_of_getElem? hx)
  exact QnF h1 h4 h5
theorem Yb (hx:(Q4 n mk)[i]? =some t):0≤t∧t < n.2.length:=by
  obtain ⟨x,h1,h2,_⟩:=Qam (List.mem_of_getElem? hx)
  exact ⟨h1,h2⟩
theorem Vg (n:Y0)(mk:ByteArray):(Q4 n mk).length≤n.2.length:=Qah _ _ _
def LBits (l:List UInt8):Prop:=∀c∈l,c=48∨c=49
theorem LBits.set {l:List UInt8}(h:LBits l){c:UInt8}(hc:c=48∨c=49)(i:Nat):LBits (l.set i c):=fun d hd=>by
  rcases List.mem_or_eq_of_mem_set hd with h1 | h1
  · exact h d h1
  · rw[h1]; exact hc
theorem LBits.clr {l:List UInt8}(h:LBits l)(ps:List Int):LBits (clr l ps):=by
  induction ps generalizing l with
  | nil=>exact h
  | cons p ps ih=>exact ih (h.set (.inl rfl) _)
theorem LBits.put {l l':List UInt8}(h:LBits l){ps:List Int}(hp:UD l ps=some l'):LBits l'∧l'.length=l.length:=by
  induction ps generalizing l with
  | nil=>rw[UD] at hp; cases hp; exact ⟨h,rfl⟩
  | cons p ps ih=>
    rw[UD] at hp
    split at hp
    · cases hp
    · obtain ⟨h1, h2⟩ := ih (h.set (.inr rfl) _) hp
      exact ⟨h1,by rw[h2,List.length_set]⟩
theorem Qkc {m:ByteArray}{n:Int}(h:XW m n):LBits m.toList:=fun c hc=>by
  rw[ByteArray.toList_eq] at hc
  obtain ⟨i,hi,e⟩:=List.getElem_of_mem hc
  have h2:i < m.size:=by simpa using hi
  have h3:=h.1 i h2 h2
  have h4:m[i]=c:=by rw[← e]; rfl
  rw[h4] at h3
  rcases h3 with h | h
  · exact .inl (UInt8.toNat_inj.1 h)
  · exact .inr (UInt8.toNat_inj.1 h)
theorem QjU {l:List UInt8}{n:Int}(h:LBits l)(hl:(l.length:Int)=n):XW ⟨l.toArray⟩ n:=by
  refine ⟨fun k hk hk'=> ?_,by rw[← hl]; rfl⟩
  have h1:(⟨l.toArray⟩:ByteArray)[k]∈l:=by
    show l.toArray[k]∈l
    simp
  rcases h _ h1 with h | h
  · exact .inl (by rw[h]; rfl)
  · exact .inr (by rw[h]; rfl)
theorem W5 (hm:XW mk n.1)(hr:r=Zy n mk t)(h:r.2=true):XW r.1 n.1:=by
  subst hr
  unfold Zy at h ⊢
  cases hx:n.2[t.toNat]? with
  | none=>rw[hx] at h; cases h
  | some x=>
    rw[hx] at h
    simp only at h ⊢
    unfold Uu at h ⊢
    cases hp:UD (clr mk.toList x.1) x.2 with
    | none=>rw[hp] at h; cases h
    | some l=>
      obtain ⟨h1,h2⟩:=((Qkc hm).clr x.1).put hp
      refine QjU h1 ?_
      rw[h2,Qnk,QbN]
      exact hm.2
theorem H0 {p:ByteArray→Prop}(h:∀m∈QK,p m)(hx:p x):∀m∈QK++[x],p m:=fun m hm=>by
  rcases List.mem_append.1 hm with h1 | h1
  · exact h m h1
  · rw[List.mem_singleton.1 h1]; exact hx
theorem Qfj (h:QK[k]? =some mk):(QK++[x])[k]? =some mk:=by
  rw[List.getElem?_append_left (List.getElem?_eq_some_iff.1 h).1]; exact h
end
theorem Kd (QK:List ByteArray)(m:ByteArray):FC Tryz.prog 185 [(false,[.dat (.sl 9 .str) QK]),(false,[dS m])] [] 0 (Zq (lI (ZQ QK m))):=by
 refine QN Tryz.func185 rfl rfl Tryz.ntmps185 fun O_ hO w0_ N0_ X_ h0_ f0_=> ?_
 iterate 6 refine w_ ?_
 refine AL.fact (Qq (x:= .tmp 7) (Qa rfl)) fun hl1=> ?_
 iterate 4 refine w_ ?_
 refine Qx (fun m_ s_=>∃(k:Nat),k≤QK.length∧m_=QK.length - k∧(NoneTo (fun y=>decide (y=m)) QK k)∧s_=⟨[(1,lf (dS m)),(7,lf (.dat (.sl 9 .str) QK)),(8,lI (QK.length:Int)),(9,lI (k:Int))],[]⟩) ⟨0,Nat.zero_le _,rfl,NoneTo.zero,rfl⟩ ?_ ?_
 · exact Wk.of [] rfl ⟨rfl,rfl,rfl,rfl,trivial⟩ trivial rfl rfl
 rintro m_ s_ ⟨k,hk2,hm3,hno,rfl⟩
 iterate 4 refine w_ ?_
 cases hb4:(decide ((k:Int) < (QK.length:Int)))
 ·have hb4':=of_decide_eq_false hb4
  refine w_ ?_
  refine QB ?_
  refine (?_:AC _ _ _ _ _)
  iterate 3 refine w_ ?_
  refine Qf ?_
  subst hO
  have e5:((-1):Int)=(ZQ QK m):=by
   first | exact (hno.no (by omega)).symm
  exact Ql (Qm rfl (Qd rfl)) ((congrArg (fun z_=>lI z_) e5)) rfl
 ·have hb4':=of_decide_eq_true hb4
  iterate 6 refine w_ ?_
  obtain ⟨x6,hx7⟩:∃z,QK[k]? =some z:=⟨_,List.getElem?_eq_getElem (by omega)⟩
  refine lc (Qh (Qa rfl) (Qa rfl) Zi Ze rfl (by omega) hx7) ?_
  iterate 9 refine w_ ?_
  cases hb8:(decide (x6=m))
  ·have hb8':=of_decide_eq_false hb8
   refine w_ ?_
   refine AC.skip ?_
   refine (?_:AC _ _ _ _ _)
   iterate 3 refine w_ ?_
   refine Qk<|QU ⟨k+1,by omega,rfl,hno.step hx7 (by assumption),rfl⟩ (by omega) ?_
   exact Wk.of [] rfl ⟨rfl,rfl,rfl,rfl,trivial⟩ trivial rfl rfl
  ·have hb8':=of_decide_eq_true hb8
   iterate 5 refine w_ ?_
   refine Qf ?_
   subst hO
   have e9:((k:Int):Int)=(ZQ QK m):=by
    exact (hno.at hx7 (by assumption)).symm
   exact Ql (Qm rfl (Qd rfl)) ((congrArg (fun z_=>lI z_) e9)) rfl
theorem Qac (s:(Int×(List (List Int×List Int)))×(List (ByteArray×Int))×(List (Int×Bool))×ByteArray)(hs:StgOk s):FC Tryz.prog 191 [(true,[dI s.1.1, .dat (.sl 159 (.pr (.sl 3 .int) (.sl 3 .int))) s.1.2, .dat (.sl 145 (.pr .str .int)) s.2.1, .dat (.sl 61 (.pr .int .bool)) s.2.2.1,dS s.2.2.2])] [] 0 (Is (PV.tup [(true,[.ref 0, .ref 1]),(false,[dI ((exV s).2.1)]),(false,[dI ((exV s).2.2.1)]),(false,[dB ((exV s).2.2.2)])]) [(0,some (.arr 9 .str (((exV s).1).1))),(1,some (.arr 226 (.pr .int (.pr .int .int)) (((exV s).1).2)))]):=by
 have hnl:=hs.net.2.1
 refine QN Tryz.func191 rfl rfl Tryz.ntmps191 fun O_ hO w0_ N0_ X_ h0_ f0_=> ?_
 refine AC.fact (QG (x:= .tmp 0) (i:=0) (Qb rfl) rfl) fun hi1=> ?_
 refine w_ ?_
 refine lc (Qw 0 (Qb rfl) rfl rfl (Fresh.of rfl) (nlr rfl))<|lc (Qp 1 (.pr (.sl 9 .str) (.sl 226 (.pr .int (.pr .int .int)))) Wr rfl rfl (Fresh.of rfl) (nlr rfl)) ?_
 iterate 4 refine w_ ?_
 refine dw [io 15 (lP 0 4),io 16 (lf (dS s.2.2.2)),⟨some 17,lR 2,[(2,some (.arr 9 .str ([s.2.2.2])))]⟩,io 18 (ag [.ref 2, .val (.slice none 0 0)]),⟨some 19,lR 3,[(3,some (.mp false .str false .int ([])))]⟩,io 20 (lP 0 4),io 21 (lf (dS s.2.2.2)),⟨none,lf (.val undef),[(3,some (.mp false .str false .int (Y6 .str ([]) s.2.2.2 0)))]⟩,io 22 (lR 3),⟨some 6,lP 4 0,[(4,some (.box 98 [.val (.slice none 0 0), .val (.slice none 0 0)]))]⟩,⟨none,lf (.val undef),[(4,some (.box 98 [.ref 2, .val (.slice none 0 0)]))]⟩,io 7 (lR 3)] [0,1,3,7,0,0,32,112,240,0,527,2047] mixed rfl (by kernel_rfl) ⟨dxf V7 rfl rfl rfl,dxl Ze rfl rfl rfl rfl rfl,fun _ h_=>ac (Qg 2 (e:= .str) Zi Ze QiT rfl ⟨_,_,rfl,(h_.w rfl),rfl⟩ (List.all_eq_true.1 rfl) ⟨_,_,_,_,rfl,⟨rfl,rfl⟩,⟨rfl,rfl⟩,rfl⟩ (by decide) rfl rfl (h_.fr 2 rfl) (nlr rfl)) rfl,fun _ h_=>ac (QH JI ⟨_,_,rfl,(h_.w rfl),rfl⟩ (List.all_eq_true.1 (by simp only[Zx,Wv,List.all_cons,List.all_nil]; rw[(h_.en 2 rfl)]; rfl)) rfl rfl) rfl,fun _ h_=>ac (Hr (kt:=9) (et:=3) (kb:=false) (k:= .str) (vb:=false) (v:= .int) 3 rfl (h_.fr 3 rfl) (nlr rfl)) rfl,dxf V7 rfl rfl rfl,dxl Ze rfl rfl rfl rfl rfl,fun _ h_=>ac (QfV Qjn Qfv (h_.v rfl) (h_.n 3 rfl) (h_.w rfl) (p:=s.2.2.2) rfl (Evl.ev (QM rfl)) (u:=0) rfl) rfl,dxm rfl rfl,fun _ h_=>ac (Qp 4 (.pr (.sl 9 .str) (.sl 226 (.pr .int (.pr .int .int)))) Wr rfl rfl (h_.fr 4 rfl) (nlr rfl)) rfl,fun _ h_=>ac (Qe (h_.v rfl) (h_.en 4 rfl) (h_.w rfl) (by simp only[Zx,Wv,List.all_cons,List.all_nil]; rw[(h_.en 2 rfl)]; rfl) ZD rfl) rfl,dxt rfl rfl,⟨⟩⟩ ?_
 iterate 5 refine w_ ?_
 refine AC.wk (QR 6 (p:=4) (off:=1) 226 (.pr .int (.pr .int .int)) rfl rfl (Fresh.of rfl) (nlr rfl)) ?_
 refine Qx (fun m_ s_=>∃(k:Nat) (QK:List ByteArray) (moves:List (Int×Int×Int)) (idx:List (ByteArray×Int)),k≤300∧m_=300 - k∧(∃b,ZM s=goK s.1 (301 - k) k (QK,moves,b))∧(∀m∈QK,XW m s.1.1)∧(QK.length≤300)∧(moves.length≤24*k)∧(IdxOf QK idx)∧s_=⟨[(1,lP 0 0),(2,lP 1 0),(6,lP 4 0),(7,lR 8),(8,lI (k:Int))],[(0,some (.box 39 [dI s.1.1, .dat (.sl 159 (.pr (.sl 3 .int) (.sl 3 .int))) s.1.2, .dat (.sl 145 (.pr .str .int)) s.2.1, .dat (.sl 61 (.pr .int .bool)) s.2.2.1,dS s.2.2.2])),(1,some (.box 98 [.val (.slice none 0 0), .val (.slice none 0 0)])),(4,some (.box 98 [.ref 5, .ref 7])),(5,some (.arr 9 .str QK)),(7,some (.arr 226 (.pr .int (.pr .int .int)) moves)),(8,some (.mp false .str false .int idx))]⟩) ⟨0,[s.2.2.2],([]:((.sl 226 (.pr .int (.pr .int .int))):Ty).Den),Y6 .str ([]) s.2.2.2 0,Nat.zero_le _,rfl,⟨_,rfl⟩,(by intro m hm; rw[List.mem_singleton.1 hm]; exact hs.bits),(Nat.le_of_ble_eq_true rfl),(Nat.le_of_ble_eq_true rfl),IdxOf.one _,rfl⟩ ?_ ?_
 · exact Wk.of [(0,0),(1,1),(4,4),(5,2),(7,6),(8,3)] rfl ⟨rfl,rfl,rfl,rfl,rfl,trivial⟩ ⟨rfl,rfl,rfl,(Qy (by first | rfl | simp)),(Qy (by first | rfl | simp)),(Qnd (by first | rfl | simp)),trivial⟩ rfl rfl
 rintro m_ s_ ⟨k,QK,moves,idx,hk2,hm3,hA,hB,hl,hv,hI,rfl⟩
 iterate 8 refine w_ ?_
 cases hb4:(decide ((k:Int) < (QK.length:Int)))
 ·have hb4':=of_decide_eq_false hb4
  refine w_ ?_
  refine QB ?_
  refine (?_:AC _ _ _ _ _)
  iterate 2 refine w_ ?_
  refine lc (Qe (Qa rfl) rfl (Qb rfl) rfl ZD rfl) ?_
  iterate 4 refine w_ ?_
  refine Qf ?_
  subst hO
  have e5:((-1):Int)=((exV s).2.1):=by
   (rw[Xh (hA.elim fun b h=>⟨_,h.trans (XK (by omega))⟩)]; done)
  have e6:((-1):Int)=((exV s).2.2.1):=by
   (rw[Xh (hA.elim fun b h=>⟨_,h.trans (XK (by omega))⟩)]; done)
  have e7:(true:Bool)=((exV s).2.2.2):=by
   (rw[Xh (hA.elim fun b h=>⟨_,h.trans (XK (by omega))⟩)]; done)
  exact QF _ _ [(0,5),(1,7)] (QcM rfl (Q3 rfl rfl ZD rfl) (Qd rfl) (Qd rfl) (Qd rfl)) ((((congrArg (fun z_=>PV.tup [(true,[.ref 5, .ref 7]),(false,[dI z_]),(false,[dI (-1)]),(false,[dB true])]) e5)).trans (congrArg (fun z_=>PV.tup [(true,[.ref 5, .ref 7]),(false,[dI ((exV s).2.1)]),(false,[dI z_]),(false,[dB true])]) e6)).trans (congrArg (fun z_=>PV.tup [(true,[.ref 5, .ref 7]),(false,[dI ((exV s).2.1)]),(false,[dI ((exV s).2.2.1)]),(false,[dB z_])]) e7)) ⟨(Qy (by (rw[Xh (hA.elim fun b h=>⟨_,h.trans (XK (by omega))⟩)]; done))),(Qy (by (rw[Xh (hA.elim fun b h=>⟨_,h.trans (XK (by omega))⟩)]; done))),trivial⟩ rfl rfl
 ·have hb4':=of_decide_eq_true hb4
  iterate 4 refine w_ ?_
  obtain ⟨mk,hx9⟩:∃z,QK[k]? =some z:=⟨_,List.getElem?_eq_getElem (by omega)⟩
  have hbm:=hB _ (List.mem_of_getElem? hx9)
  have hnp:=Qhf hs.net hbm
  have hel:=Vg s.1 mk
  refine dw [io 30 (lP 0 0),io 31 (ag [dI s.1.1, .dat (.sl 159 (.pr (.sl 3 .int) (.sl 3 .int))) s.1.2]),io 32 (lP 4 0),io 33 (lR 5),io 34 (lI (k:Int)),io 35 (lf (.ept 5 1 k 0)),io 36 (lf (dS mk)),io 37 (lf (.dat (.sl 3 .int) (Q4 s.1 mk))),io 38 (lI ((Q4 s.1 mk).length:Int)),io 39 (lI 0)] [0,1,0,4,0,28,60,127,255,0] mixed rfl (by kernel_rfl) ⟨dxf ZP rfl rfl rfl,dxa XO rfl rfl rfl rfl,dxf VY rfl rfl rfl,dxl Xe rfl rfl rfl rfl rfl,dxm rfl rfl,fun _ h_=>ac (Qu (e:= .str) (h_.v rfl) (h_.en 5 rfl) (h_.v rfl) Zi Ze rfl (by omega) (by first | omega | (simp only[List.length_set]; omega))) rfl,fun _ h_=>ac (QL (e:= .str) (h_.v rfl) (h_.n 5 rfl) hx9 rfl Ze rfl rfl) rfl,fun _ h_=>ac (Qn (UR s.1 mk hnp (by omega)).frozen QcI ⟨_,_,rfl,(h_.w rfl),⟨_,_,rfl,(h_.w rfl),rfl⟩⟩ rfl rfl) rfl,fun _ h_=>ac (V5 (h_.v rfl) rfl QE) rfl,fun _ h_=>ac (JG (QM rfl) rfl) rfl,⟨⟩⟩ ?_
  refine w_ ?_
  refine Qx (fun m_ s_=>∃(i:Nat) (marks2:List ByteArray) (moves2:List (Int×Int×Int)) (idx2:List (ByteArray×Int)),i≤(Q4 s.1 mk).length∧m_=(Q4 s.1 mk).length - i∧(∃b,ZM s=Jr s.1 (300 - k) k (goT s.1 k mk ((Q4 s.1 mk).drop i) (marks2,moves2,b)))∧(∀m∈marks2,XW m s.1.1)∧(marks2.length≤300)∧(marks2[k]? =some mk)∧(moves2.length≤24*k+i)∧(IdxOf marks2 idx2)∧s_=⟨[(1,lP 0 0),(2,lP 1 0),(6,lP 4 0),(7,lR 11),(8,lI (k:Int)),(23,lI (k:Int)),(24,lP 4 0),(26,lI (QK.length:Int)),(27,lB true),(30,lP 0 0),(31,ag [dI s.1.1, .dat (.sl 159 (.pr (.sl 3 .int) (.sl 3 .int))) s.1.2]),(32,lP 4 0),(34,lI (k:Int)),(36,lf (dS mk)),(37,lf (.dat (.sl 3 .int) (Q4 s.1 mk))),(38,lI ((Q4 s.1 mk).length:Int)),(39,lI (i:Int))],[(0,some (.box 39 [dI s.1.1, .dat (.sl 159 (.pr (.sl 3 .int) (.sl 3 .int))) s.1.2, .dat (.sl 145 (.pr .str .int)) s.2.1, .dat (.sl 61 (.pr .int .bool)) s.2.2.1,dS s.2.2.2])),(1,some (.box 98 [.val (.slice none 0 0), .val (.slice none 0 0)])),(4,some (.box 98 [.ref 9, .ref 10])),(9,some (.arr 9 .str marks2)),(10,some (.arr 226 (.pr .int (.pr .int .int)) moves2)),(11,some (.mp false .str false .int idx2))]⟩) ⟨0,QK,moves,idx,Nat.zero_le _,rfl,hA.elim fun b h=>⟨_,h.trans (QmR hx9 (by omega))⟩,hB,hl,hx9,(by omega),hI,rfl⟩ ?_ ?_
  · exact Wk.of [(0,0),(1,1),(4,4),(9,5),(10,7),(11,8)] rfl ⟨rfl,rfl,rfl,rfl,rfl,rfl,rfl,rfl,rfl,rfl,rfl,rfl,rfl,rfl,rfl,rfl,rfl,trivial⟩ ⟨rfl,rfl,rfl,rfl,rfl,rfl,trivial⟩ rfl rfl
  rintro m_ s_ ⟨i,marks2,moves2,idx2,hk10,hm11,hA2,hB2,hl2,hM2,hv2,hI2,rfl⟩
  have hk2:=(List.getElem?_eq_some_iff.1 hM2).1
  iterate 4 refine w_ ?_
  cases hb12:(decide ((i:Int) < ((Q4 s.1 mk).length:Int)))
  ·have hb12':=of_decide_eq_false hb12
   refine w_ ?_
   refine QB ?_
   refine (?_:AC _ _ _ _ _)
   iterate 4 refine w_ ?_
   refine Qk<|QU ⟨k+1,marks2,moves2,idx2,by omega,rfl,hA2.elim fun b h=>⟨_,h.trans (QiV (by omega) (by omega))⟩,hB2,hl2,(by omega),hI2,rfl⟩ (by omega) ?_
   exact Wk.of [(0,0),(1,1),(4,4),(5,9),(7,10),(8,11)] rfl ⟨rfl,rfl,rfl,rfl,rfl,trivial⟩ ⟨rfl,rfl,rfl,rfl,rfl,rfl,trivial⟩ rfl rfl
  ·have hb12':=of_decide_eq_true hb12
   iterate 5 refine w_ ?_
   obtain ⟨x13,hx14⟩:∃z,(Q4 s.1 mk)[i]? =some z:=⟨_,List.getElem?_eq_getElem (by omega)⟩
   refine lc (Qh (Qa rfl) (Qa rfl) QE QO rfl (by omega) hx14) ?_
   refine w_ ?_
   refine AL.fact (QA (x:= .tmp 42) (Qa rfl)) fun hi15=> ?_
   iterate 2 refine w_ ?_
   refine dw [io 44 (lP 0 0),io 45 (ag [dI s.1.1, .dat (.sl 159 (.pr (.sl 3 .int) (.sl 3 .int))) s.1.2]),io 46 (lP 4 0),io 47 (lR 9),io 48 (lI (k:Int)),io 49 (lf (.ept 9 1 k 0)),io 50 (lf (dS mk)),io 51 (lI x13),io 52 (PV.tup [(false,[dS ((ZE s.1 mk x13).1)]),(false,[dB ((ZE s.1 mk x13).2)])]),io 43 (PV.tup [(false,[dS ((ZE s.1 mk x13).1)]),(false,[dB ((ZE s.1 mk x13).2)])]),io 53 (lf (dS ((ZE s.1 mk x13).1))),io 54 (lB ((ZE s.1 mk x13).2)),io 11 (lf (dS ((ZE s.1 mk x13).1))),io 12 (lB ((ZE s.1 mk x13).2))] [0,1,0,4,0,28,60,0,255,511,1023,1023,2047,8191] mixed rfl (by kernel_rfl) ⟨dxf ZP rfl rfl rfl,dxa XO rfl rfl rfl rfl,dxf VY rfl rfl rfl,dxl Xe rfl rfl rfl rfl rfl,dxm rfl rfl,fun _ h_=>ac (Qu (e:= .str) (h_.v rfl) (h_.en 9 rfl) (h_.v rfl) Zi Ze rfl (by omega) (by first | omega | (simp only[List.length_set]; omega))) rfl,fun _ h_=>ac (QL (e:= .str) (h_.v rfl) (h_.n 9 rfl) hM2 rfl Ze rfl rfl) rfl,dxm rfl rfl,fun _ h_=>ac (Qn (QfA s.1 mk x13 hnp (by omega)) QhH ⟨_,_,rfl,(h_.w rfl),⟨_,_,rfl,(h_.w rfl),⟨_,_,rfl,(h_.w rfl),rfl⟩⟩⟩ rfl rfl) rfl,dxm rfl rfl,fun _ h_=>ac (Zz (h_.k rfl) rfl rfl) rfl,fun _ h_=>ac (Zz (h_.k rfl) rfl rfl) rfl,dxt rfl rfl,dxt rfl rfl,⟨⟩⟩ ?_
   iterate 5 refine w_ ?_
   cases hb16:((ZE s.1 mk x13).2)
   ·iterate 5 refine w_ ?_
    refine lc (Qe (Qa rfl) rfl (Qb rfl) rfl ZD rfl) ?_
    iterate 4 refine w_ ?_
    refine Qf ?_
    subst hO
    have e17:((k:Int):Int)=((exV s).2.1):=by
     (rw[Xh (hA2.elim fun b h=>⟨_,h.trans (XJ hx14 (ZG hx14) (by assumption))⟩)]; done)
    have e18:(x13:Int)=((exV s).2.2.1):=by
     (rw[Xh (hA2.elim fun b h=>⟨_,h.trans (XJ hx14 (ZG hx14) (by assumption))⟩)]; done)
    have e19:(false:Bool)=((exV s).2.2.2):=by
     (rw[Xh (hA2.elim fun b h=>⟨_,h.trans (XJ hx14 (ZG hx14) (by assumption))⟩)]; done)
    exact QF _ _ [(0,9),(1,10)] (QcM rfl (Q3 rfl rfl ZD rfl) (Qd rfl) (Qd rfl) (Qd rfl)) ((((congrArg (fun z_=>PV.tup [(true,[.ref 9, .ref 10]),(false,[dI z_]),(false,[dI x13]),(false,[dB false])]) e17)).trans (congrArg (fun z_=>PV.tup [(true,[.ref 9, .ref 10]),(false,[dI ((exV s).2.1)]),(false,[dI z_]),(false,[dB false])]) e18)).trans (congrArg (fun z_=>PV.tup [(true,[.ref 9, .ref 10]),(false,[dI ((exV s).2.1)]),(false,[dI ((exV s).2.2.1)]),(false,[dB z_])]) e19)) ⟨(Qy (by (rw[Xh (hA2.elim fun b h=>⟨_,h.trans (XJ hx14 (ZG hx14) (by assumption))⟩)]; done))),(Qy (by (rw[Xh (hA2.elim fun b h=>⟨_,h.trans (XJ hx14 (ZG hx14) (by assumption))⟩)]; done))),trivial⟩ rfl rfl
   ·iterate 5 refine w_ ?_
    refine lc (Qdt Qjn Qfv QoX (Qa rfl) rfl (Qb rfl) (p:=(ZE s.1 mk x13).1) rfl rfl rfl) ?_
    iterate 11 refine w_ ?_
    cases hb20:((XE .str idx2 ((ZE s.1 mk x13).1)).isSome)
    ·iterate 8 refine w_ ?_
     cases hb21:(decide ((marks2.length:Int)=300))
     ·have hb21':=of_decide_eq_false hb21
      iterate 12 refine w_ ?_
      refine lc (Ko Qjn Qfv (Qa rfl) rfl (Qb rfl) (p:=(ZE s.1 mk x13).1) rfl (Qb rfl) (u:=(marks2.length:Int)) rfl) ?_
      iterate 5 refine w_ ?_
      refine lc (Qg 12 (e:= .str) Zi Ze QiT rfl ⟨_,_,rfl,(Qb rfl),rfl⟩ (List.all_eq_true.1 rfl) ⟨_,_,_,_,rfl,⟨rfl,rfl⟩,⟨rfl,rfl⟩,rfl⟩ (by decide) rfl rfl (Fresh.of rfl) (nlr rfl))<|lc (QQ 13 (Qa rfl) rfl (Qa rfl) rfl rfl Zi Qn3 (by first | omega | (simp only[List.length_append,List.length_map,List.length_take,List.length_cons,List.length_nil]; omega) | (simp only[List.length_append,List.length_drop,List.length_take,List.length_cons,List.length_nil]; omega)) rfl (Fresh.of rfl) (nlr rfl)) ?_
      refine w_ ?_
      refine lc (Qe (Qa rfl) rfl (Qb rfl) rfl Xe rfl) ?_
      iterate 7 refine w_ ?_
      refine lc (QH K0 ⟨_,_,rfl,(Qb rfl),⟨_,_,rfl,(Qb rfl),⟨_,_,rfl,(Qb rfl),rfl⟩⟩⟩ (List.all_eq_true.1 rfl) rfl rfl)<|lc (Qg 14 (e:=(.pr .int (.pr .int .int))) Z6 Zr Yu rfl ⟨_,_,rfl,(Qb rfl),rfl⟩ (List.all_eq_true.1 rfl) ⟨_,_,_,_,rfl,⟨[dI (k:Int)],[dI x13,dI (marks2.length:Int)],_,_,_,_,rfl,rfl,⟨rfl,rfl⟩,⟨[dI x13],[dI (marks2.length:Int)],_,_,_,_,rfl,rfl,⟨rfl,rfl⟩,⟨rfl,rfl⟩,rfl⟩,rfl⟩,⟨rfl,rfl⟩,rfl⟩ (by decide) rfl rfl (Fresh.of rfl) (nlr rfl))<|lc (QQ 15 (Qa rfl) rfl (Qa rfl) rfl rfl Z6 KI (by first | omega | (simp only[List.length_append,List.length_map,List.length_take,List.length_cons,List.length_nil]; omega) | (simp only[List.length_append,List.length_drop,List.length_take,List.length_cons,List.length_nil]; omega)) rfl (Fresh.of rfl) (nlr rfl)) ?_
      refine w_ ?_
      refine lc (Qe (Qa rfl) rfl (Qb rfl) rfl QbT rfl)<|Qk ?_
      refine (?_:AC _ _ _ _ _)
      iterate 3 refine w_ ?_
      refine Qk<|QU ⟨i+1,(marks2++([(ZE s.1 mk x13).1])),(moves2++([((k:Int),x13,(marks2.length:Int))])),(Y6 .str idx2 ((ZE s.1 mk x13).1) (marks2.length:Int)),by omega,rfl,by first | exact hA2.elim fun b h=>⟨_,h.trans (Qa6 hx14 (ZG hx14) (by assumption) (hI2.old (by assumption)))⟩ | exact hA2.elim fun b h=>⟨_,h.trans (Qbp hx14 (ZG hx14) (by assumption) (hI2.new (by assumption)) (by assumption))⟩,by first | exact hB2 | exact H0 hB2 (W5 (hB2 _ (List.mem_of_getElem? hM2)) (ZG hx14) (by assumption)),(by (simp only[List.length_append,List.length_cons,List.length_nil]; omega)),by first | exact hM2 | exact Qfj hM2,(by simp only[List.length_append,List.length_cons,List.length_nil]; omega),by first | exact hI2 | exact hI2.set (by assumption),rfl⟩ (by omega) ?_
      exact Wk.of [(0,0),(1,1),(4,4),(9,13),(10,15),(11,11)] rfl ⟨rfl,rfl,rfl,rfl,rfl,rfl,rfl,rfl,rfl,rfl,rfl,rfl,rfl,rfl,rfl,rfl,rfl,trivial⟩ ⟨rfl,rfl,rfl,(Qy (by first | rfl | simp)),(Qy (by first | rfl | simp)),(Qnd (by first | rfl | simp)),trivial⟩ rfl rfl
     ·have hb21':=of_decide_eq_true hb21
      iterate 3 refine w_ ?_
      refine lc (Qe (Qa rfl) rfl (Qb rfl) rfl ZD rfl) ?_
      iterate 4 refine w_ ?_
      refine Qf ?_
      subst hO
      have e22:((-1):Int)=((exV s).2.1):=by
       (rw[Xh (hA2.elim fun b h=>⟨_,h.trans (YR hx14 (ZG hx14) (by assumption) (hI2.new (by assumption)) (by assumption))⟩)]; done)
      have e23:((-1):Int)=((exV s).2.2.1):=by
       (rw[Xh (hA2.elim fun b h=>⟨_,h.trans (YR hx14 (ZG hx14) (by assumption) (hI2.new (by assumption)) (by assumption))⟩)]; done)
      have e24:(false:Bool)=((exV s).2.2.2):=by
       (rw[Xh (hA2.elim fun b h=>⟨_,h.trans (YR hx14 (ZG hx14) (by assumption) (hI2.new (by assumption)) (by assumption))⟩)]; done)
      exact QF _ _ [(0,9),(1,10)] (QcM rfl (Q3 rfl rfl ZD rfl) (Qd rfl) (Qd rfl) (Qd rfl)) ((((congrArg (fun z_=>PV.tup [(true,[.ref 9, .ref 10]),(false,[dI z_]),(false,[dI (-1)]),(false,[dB false])]) e22)).trans (congrArg (fun z_=>PV.tup [(true,[.ref 9, .ref 10]),(false,[dI ((exV s).2.1)]),(false,[dI z_]),(false,[dB false])]) e23)).trans (congrArg (fun z_=>PV.tup [(true,[.ref 9, .ref 10]),(false,[dI ((exV s).2.1)]),(false,[dI ((exV s).2.2.1)]),(false,[dB z_])]) e24)) ⟨(Qy (by (rw[Xh (hA2.elim fun b h=>⟨_,h.trans (YR hx14 (ZG hx14) (by assumption) (hI2.new (by assumption)) (by assumption))⟩)]; done))),(Qy (by (rw[Xh (hA2.elim fun b h=>⟨_,h.trans (YR hx14 (ZG hx14) (by assumption) (hI2.new (by assumption)) (by assumption))⟩)]; done))),trivial⟩ rfl rfl
    ·iterate 8 refine w_ ?_
     refine lc (QH K0 ⟨_,_,rfl,(Qb rfl),⟨_,_,rfl,(Qb rfl),⟨_,_,rfl,(Qb rfl),rfl⟩⟩⟩ (List.all_eq_true.1 rfl) rfl rfl)<|lc (Qg 16 (e:=(.pr .int (.pr .int .int))) Z6 Zr Yu rfl ⟨_,_,rfl,(Qb rfl),rfl⟩ (List.all_eq_true.1 rfl) ⟨_,_,_,_,rfl,⟨[dI (k:Int)],[dI x13,dI ((XE .str idx2 ((ZE s.1 mk x13).1)).getD (Ty.zero .int))],_,_,_,_,rfl,rfl,⟨rfl,rfl⟩,⟨[dI x13],[dI ((XE .str idx2 ((ZE s.1 mk x13).1)).getD (Ty.zero .int))],_,_,_,_,rfl,rfl,⟨rfl,rfl⟩,⟨rfl,rfl⟩,rfl⟩,rfl⟩,⟨rfl,rfl⟩,rfl⟩ (by decide) rfl rfl (Fresh.of rfl) (nlr rfl))<|lc (QQ 17 (Qa rfl) rfl (Qa rfl) rfl rfl Z6 KI (by first | omega | (simp only[List.length_append,List.length_map,List.length_take,List.length_cons,List.length_nil]; omega) | (simp only[List.length_append,List.length_drop,List.length_take,List.length_cons,List.length_nil]; omega)) rfl (Fresh.of rfl) (nlr rfl)) ?_
     refine w_ ?_
     refine lc (Qe (Qa rfl) rfl (Qb rfl) rfl QbT rfl)<|Qk ?_
     refine (?_:AC _ _ _ _ _)
     iterate 3 refine w_ ?_
     refine Qk<|QU ⟨i+1,marks2,(moves2++([((k:Int),x13,(XE .str idx2 ((ZE s.1 mk x13).1)).getD (Ty.zero .int))])),idx2,by omega,rfl,by first | exact hA2.elim fun b h=>⟨_,h.trans (Qa6 hx14 (ZG hx14) (by assumption) (hI2.old (by assumption)))⟩ | exact hA2.elim fun b h=>⟨_,h.trans (Qbp hx14 (ZG hx14) (by assumption) (hI2.new (by assumption)) (by assumption))⟩,by first | exact hB2 | exact H0 hB2 (W5 (hB2 _ (List.mem_of_getElem? hM2)) (ZG hx14) (by assumption)),(by omega),by first | exact hM2 | exact Qfj hM2,(by simp only[List.length_append,List.length_cons,List.length_nil]; omega),by first | exact hI2 | exact hI2.set (by assumption),rfl⟩ (by omega) ?_
     exact Wk.of [(0,0),(1,1),(4,4),(9,9),(10,17),(11,11)] rfl ⟨rfl,rfl,rfl,rfl,rfl,rfl,rfl,rfl,rfl,rfl,rfl,rfl,rfl,rfl,rfl,rfl,rfl,trivial⟩ ⟨rfl,rfl,rfl,rfl,(Qy (by first | rfl | simp)),rfl,trivial⟩ rfl rfl
theorem QaU (s:(Int×(List (List Int×List Int)))×(List (ByteArray×Int))×(List (Int×Bool))×ByteArray)(hs:StgOk s):FC Tryz.prog 107 [(true,[dI s.1.1, .dat (.sl 159 (.pr (.sl 3 .int) (.sl 3 .int))) s.1.2, .dat (.sl 145 (.pr .str .int)) s.2.1, .dat (.sl 61 (.pr .int .bool)) s.2.2.1,dS s.2.2.2])] [] 0 (Is (ag [.ref 0, .ref 1, .ref 2,dI ((l4V s).2.2.1),dI ((l4V s).2.2.2.1),dB ((l4V s).2.2.2.2)]) [(0,some (.arr 9 .str (((l4V s).1).1))),(1,some (.arr 226 (.pr .int (.pr .int .int)) (((l4V s).1).2))),(2,some (.arr 226 (.pr .int (.pr .int .int)) ((l4V s).2.1)))]):=by
 have hnl:=hs.net.2.1
 refine QN Tryz.func107 rfl rfl Tryz.ntmps107 fun O_ hO w0_ N0_ X_ h0_ f0_=> ?_
 refine AC.fact (QG (x:= .tmp 0) (i:=0) (Qb rfl) rfl) fun hi1=> ?_
 refine w_ ?_
 refine lc (Qw 0 (Qb rfl) rfl rfl (Fresh.of rfl) (nlr rfl))<|lc (Qp 1 (.pr (.pr (.sl 9 .str) (.sl 226 (.pr .int (.pr .int .int)))) (.pr (.sl 226 (.pr .int (.pr .int .int))) (.pr .int (.pr .int .bool)))) Qbs rfl rfl (Fresh.of rfl) (nlr rfl)) ?_
 iterate 4 refine w_ ?_
 refine lc (Qg 2 (e:= .str) Zi Ze QiT rfl ⟨_,_,rfl,(Qb rfl),rfl⟩ (List.all_eq_true.1 rfl) ⟨_,_,_,_,rfl,⟨rfl,rfl⟩,⟨rfl,rfl⟩,rfl⟩ (by decide) rfl rfl (Fresh.of rfl) (nlr rfl))<|lc (QH JI ⟨_,_,rfl,(Qb rfl),rfl⟩ (List.all_eq_true.1 rfl) rfl rfl)<|lc (QH K0 rfl (List.all_eq_true.1 rfl) rfl rfl)<|lc (Qg 3 (e:=(.pr .int (.pr .int .int))) Z6 Zr Yu rfl ⟨_,_,rfl,(Qb rfl),rfl⟩ (List.all_eq_true.1 rfl) ⟨_,_,_,_,rfl,⟨[dI 0],[dI 0,dI 0],_,_,_,_,rfl,rfl,⟨rfl,rfl⟩,⟨[dI 0],[dI 0],_,_,_,_,rfl,rfl,⟨rfl,rfl⟩,⟨rfl,rfl⟩,rfl⟩,rfl⟩,⟨rfl,rfl⟩,rfl⟩ (by decide) rfl rfl (Fresh.of rfl) (nlr rfl))<|lc (QH Qnb ⟨_,_,rfl,(Qb rfl),⟨_,_,rfl,(Qb rfl),⟨_,_,rfl,(Evl.ev (QM rfl)),rfl⟩⟩⟩ (List.all_eq_true.1 rfl) rfl rfl)<|lc (Qp 4 (.pr (.pr (.sl 9 .str) (.sl 226 (.pr .int (.pr .int .int)))) (.pr (.sl 226 (.pr .int (.pr .int .int))) (.pr .int (.pr .int .bool)))) Qbs rfl rfl (Fresh.of rfl) (nlr rfl))<|lc (Qe (Qa rfl) rfl (Qb rfl) rfl Vr rfl) ?_
 iterate 6 refine w_ ?_
 refine AC.wk (QR 6 (p:=4) (off:=1) 226 (.pr .int (.pr .int .int)) rfl rfl (Fresh.of rfl) (nlr rfl)) ?_
 refine Qx (fun m_ s_=>∃(k:Nat) (QK:List ByteArray) (moves:List (Int×Int×Int)) (by_:List (Int×Int×Int)),k≤300∧m_=300 - k∧(ZM s=goK s.1 (301 - k) k (QK,moves,by_))∧(∀m∈QK,XW m s.1.1)∧(QK.length≤300)∧(moves.length≤24*k)∧(by_.length≤24*k+1)∧s_=⟨[(1,lP 0 0),(2,lP 1 0),(3,lP 4 0),(4,lI (k:Int))],[(0,some (.box 39 [dI s.1.1, .dat (.sl 159 (.pr (.sl 3 .int) (.sl 3 .int))) s.1.2, .dat (.sl 145 (.pr .str .int)) s.2.1, .dat (.sl 61 (.pr .int .bool)) s.2.2.1,dS s.2.2.2])),(1,some (.box 155 [.val (.slice none 0 0), .val (.slice none 0 0), .val (.slice none 0 0),dI 0,dI 0,dB false])),(4,some (.box 155 [.ref 5, .ref 7, .ref 8,dI 0,dI (-1),dB false])),(5,some (.arr 9 .str QK)),(7,some (.arr 226 (.pr .int (.pr .int .int)) moves)),(8,some (.arr 226 (.pr .int (.pr .int .int)) by_))]⟩) ⟨0,[s.2.2.2],([]:((.sl 226 (.pr .int (.pr .int .int))):Ty).Den),[(0,0,0)],Nat.zero_le _,rfl,rfl,(by intro m hm; rw[List.mem_singleton.1 hm]; exact hs.bits),(Nat.le_of_ble_eq_true rfl),(Nat.le_of_ble_eq_true rfl),(Nat.le_of_ble_eq_true rfl),rfl⟩ ?_ ?_
 · exact Wk.of [(0,0),(1,1),(4,4),(5,2),(7,6),(8,3)] rfl ⟨rfl,rfl,rfl,rfl,trivial⟩ ⟨rfl,rfl,rfl,(Qy (by first | rfl | simp)),(Qy (by first | rfl | simp)),(Qy (by first | rfl | simp)),trivial⟩ rfl rfl
 rintro m_ s_ ⟨k,QK,moves,by_,hk2,hm3,hA,hB,hl,hv,hy,rfl⟩
 iterate 9 refine w_ ?_
 cases hb4:(decide ((k:Int) < (QK.length:Int)))
 ·have hb4':=of_decide_eq_false hb4
  refine w_ ?_
  refine QB ?_
  refine (?_:AC _ _ _ _ _)
  iterate 2 refine w_ ?_
  refine lc (Qe (Qa rfl) rfl (Qb rfl) rfl Vr rfl) ?_
  refine w_ ?_
  refine Qf ?_
  subst hO
  have e5:(0:Int)=((l4V s).2.2.1):=by
   (rw[Qar (hA.trans (XK (by omega)))]; done)
  have e6:((-1):Int)=((l4V s).2.2.2.1):=by
   (rw[Qar (hA.trans (XK (by omega)))]; done)
  have e7:(false:Bool)=((l4V s).2.2.2.2):=by
   (rw[Qar (hA.trans (XK (by omega)))]; done)
  exact QF _ _ [(0,5),(1,7),(2,8)] (Qm rfl (Q3 rfl rfl Vr rfl)) ((((congrArg (fun z_=>ag [.ref 5, .ref 7, .ref 8,dI z_,dI (-1),dB false]) e5)).trans (congrArg (fun z_=>ag [.ref 5, .ref 7, .ref 8,dI ((l4V s).2.2.1),dI z_,dB false]) e6)).trans (congrArg (fun z_=>ag [.ref 5, .ref 7, .ref 8,dI ((l4V s).2.2.1),dI ((l4V s).2.2.2.1),dB z_]) e7)) ⟨(Qy (by (rw[Qar (hA.trans (XK (by omega)))]; done))),(Qy (by (rw[Qar (hA.trans (XK (by omega)))]; done))),(Qy (by (rw[Qar (hA.trans (XK (by omega)))]; done))),trivial⟩ rfl rfl
 ·have hb4':=of_decide_eq_true hb4
  iterate 4 refine w_ ?_
  obtain ⟨mk,hx9⟩:∃z,QK[k]? =some z:=⟨_,List.getElem?_eq_getElem (by omega)⟩
  have hbm:=hB _ (List.mem_of_getElem? hx9)
  have hnp:=Qhf hs.net hbm
  have hel:=Vg s.1 mk
  refine dw [io 25 (lP 0 0),io 26 (ag [dI s.1.1, .dat (.sl 159 (.pr (.sl 3 .int) (.sl 3 .int))) s.1.2]),io 27 (lP 4 0),io 28 (lP 4 0),io 29 (lR 5),io 30 (lI (k:Int)),io 31 (lf (.ept 5 1 k 0)),io 32 (lf (dS mk)),io 33 (lf (.dat (.sl 3 .int) (Q4 s.1 mk))),io 34 (lI ((Q4 s.1 mk).length:Int)),io 35 (lI 0)] [0,1,0,4,12,0,60,124,255,511,0] mixed rfl (by kernel_rfl) ⟨dxf ZP rfl rfl rfl,dxa XO rfl rfl rfl rfl,dxf Qd5 rfl rfl rfl,dxf VY rfl rfl rfl,dxl Xe rfl rfl rfl rfl rfl,dxm rfl rfl,fun _ h_=>ac (Qu (e:= .str) (h_.v rfl) (h_.en 5 rfl) (h_.v rfl) Zi Ze rfl (by omega) (by first | omega | (simp only[List.length_set]; omega))) rfl,fun _ h_=>ac (QL (e:= .str) (h_.v rfl) (h_.n 5 rfl) hx9 rfl Ze rfl rfl) rfl,fun _ h_=>ac (Qn (VF s.1 mk hnp (by omega)).frozen QbM ⟨_,_,rfl,(h_.w rfl),⟨_,_,rfl,(h_.w rfl),rfl⟩⟩ rfl rfl) rfl,fun _ h_=>ac (V5 (h_.v rfl) rfl QE) rfl,fun _ h_=>ac (JG (QM rfl) rfl) rfl,⟨⟩⟩ ?_
  refine w_ ?_
  refine Qx (fun m_ s_=>∃(i:Nat) (marks2:List ByteArray) (moves2:List (Int×Int×Int)) (by2:List (Int×Int×Int)),i≤(Q4 s.1 mk).length∧m_=(Q4 s.1 mk).length - i∧(ZM s=Jr s.1 (300 - k) k (goT s.1 k mk ((Q4 s.1 mk).drop i) (marks2,moves2,by2)))∧(∀m∈marks2,XW m s.1.1)∧(marks2.length≤300)∧(marks2[k]? =some mk)∧(moves2.length≤24*k+i)∧(by2.length≤24*k+1+i)∧s_=⟨[(1,lP 0 0),(2,lP 1 0),(3,lP 4 0),(4,lI (k:Int)),(17,lI (k:Int)),(18,lP 4 0),(19,lP 4 0),(21,lI (QK.length:Int)),(22,lB true),(25,lP 0 0),(26,ag [dI s.1.1, .dat (.sl 159 (.pr (.sl 3 .int) (.sl 3 .int))) s.1.2]),(27,lP 4 0),(28,lP 4 0),(30,lI (k:Int)),(32,lf (dS mk)),(33,lf (.dat (.sl 3 .int) (Q4 s.1 mk))),(34,lI ((Q4 s.1 mk).length:Int)),(35,lI (i:Int))],[(0,some (.box 39 [dI s.1.1, .dat (.sl 159 (.pr (.sl 3 .int) (.sl 3 .int))) s.1.2, .dat (.sl 145 (.pr .str .int)) s.2.1, .dat (.sl 61 (.pr .int .bool)) s.2.2.1,dS s.2.2.2])),(1,some (.box 155 [.val (.slice none 0 0), .val (.slice none 0 0), .val (.slice none 0 0),dI 0,dI 0,dB false])),(4,some (.box 155 [.ref 9, .ref 10, .ref 11,dI 0,dI (-1),dB false])),(9,some (.arr 9 .str marks2)),(10,some (.arr 226 (.pr .int (.pr .int .int)) moves2)),(11,some (.arr 226 (.pr .int (.pr .int .int)) by2))]⟩) ⟨0,QK,moves,by_,Nat.zero_le _,rfl,hA.trans (QmR hx9 (by omega)),hB,hl,hx9,(by omega),(by omega),rfl⟩ ?_ ?_
  · exact Wk.of [(0,0),(1,1),(4,4),(9,5),(10,7),(11,8)] rfl ⟨rfl,rfl,rfl,rfl,rfl,rfl,rfl,rfl,rfl,rfl,rfl,rfl,rfl,rfl,rfl,rfl,rfl,rfl,trivial⟩ ⟨rfl,rfl,rfl,rfl,rfl,rfl,trivial⟩ rfl rfl
  rintro m_ s_ ⟨i,marks2,moves2,by2,hk10,hm11,hA2,hB2,hl2,hM2,hv2,hy2,rfl⟩
  have hk2:=(List.getElem?_eq_some_iff.1 hM2).1
  iterate 4 refine w_ ?_
  cases hb12:(decide ((i:Int) < ((Q4 s.1 mk).length:Int)))
  ·have hb12':=of_decide_eq_false hb12
   refine w_ ?_
   refine QB ?_
   refine (?_:AC _ _ _ _ _)
   iterate 4 refine w_ ?_
   refine Qk<|QU ⟨k+1,marks2,moves2,by2,by omega,rfl,hA2.trans (QiV (by omega) (by omega)),hB2,hl2,(by omega),(by omega),rfl⟩ (by omega) ?_
   exact Wk.of [(0,0),(1,1),(4,4),(5,9),(7,10),(8,11)] rfl ⟨rfl,rfl,rfl,rfl,trivial⟩ ⟨rfl,rfl,rfl,rfl,rfl,rfl,trivial⟩ rfl rfl
  ·have hb12':=of_decide_eq_true hb12
   iterate 5 refine w_ ?_
   obtain ⟨x13,hx14⟩:∃z,(Q4 s.1 mk)[i]? =some z:=⟨_,List.getElem?_eq_getElem (by omega)⟩
   refine lc (Qh (Qa rfl) (Qa rfl) QE QO rfl (by omega) hx14) ?_
   refine w_ ?_
   refine AL.fact (QA (x:= .tmp 38) (Qa rfl)) fun hi15=> ?_
   iterate 2 refine w_ ?_
   refine dw [io 40 (lP 0 0),io 41 (ag [dI s.1.1, .dat (.sl 159 (.pr (.sl 3 .int) (.sl 3 .int))) s.1.2]),io 42 (lP 4 0),io 43 (lP 4 0),io 44 (lR 9),io 45 (lI (k:Int)),io 46 (lf (.ept 9 1 k 0)),io 47 (lf (dS mk)),io 48 (lI x13),io 49 (PV.tup [(false,[dS ((Zy s.1 mk x13).1)]),(false,[dB ((Zy s.1 mk x13).2)])]),io 39 (PV.tup [(false,[dS ((Zy s.1 mk x13).1)]),(false,[dB ((Zy s.1 mk x13).2)])]),io 50 (lf (dS ((Zy s.1 mk x13).1))),io 51 (lB ((Zy s.1 mk x13).2)),io 7 (lf (dS ((Zy s.1 mk x13).1))),io 8 (lB ((Zy s.1 mk x13).2))] [0,1,0,4,12,0,60,124,0,511,1023,2047,2047,4095,16383] mixed rfl (by kernel_rfl) ⟨dxf ZP rfl rfl rfl,dxa XO rfl rfl rfl rfl,dxf Qd5 rfl rfl rfl,dxf VY rfl rfl rfl,dxl Xe rfl rfl rfl rfl rfl,dxm rfl rfl,fun _ h_=>ac (Qu (e:= .str) (h_.v rfl) (h_.en 9 rfl) (h_.v rfl) Zi Ze rfl (by omega) (by first | omega | (simp only[List.length_set]; omega))) rfl,fun _ h_=>ac (QL (e:= .str) (h_.v rfl) (h_.n 9 rfl) hM2 rfl Ze rfl rfl) rfl,dxm rfl rfl,fun _ h_=>ac (Qn (QcV s.1 mk x13 hnp (Yb hx14)) Qhd ⟨_,_,rfl,(h_.w rfl),⟨_,_,rfl,(h_.w rfl),⟨_,_,rfl,(h_.w rfl),rfl⟩⟩⟩ rfl rfl) rfl,dxm rfl rfl,fun _ h_=>ac (Zz (h_.k rfl) rfl rfl) rfl,fun _ h_=>ac (Zz (h_.k rfl) rfl rfl) rfl,dxt rfl rfl,dxt rfl rfl,⟨⟩⟩ ?_
   iterate 5 refine w_ ?_
   cases hb16:((Zy s.1 mk x13).2)
   ·iterate 4 refine w_ ?_
    refine lc (Qe (Qa rfl) rfl (Qb rfl) rfl QO rfl) ?_
    iterate 4 refine w_ ?_
    refine lc (Qe (Qa rfl) rfl (Qb rfl) rfl QO rfl) ?_
    iterate 3 refine w_ ?_
    refine lc (Qe (Qa rfl) rfl (Qb rfl) rfl Vr rfl) ?_
    refine w_ ?_
    refine Qf ?_
    subst hO
    have e17:((k:Int):Int)=((l4V s).2.2.1):=by
     (rw[KK (hA2.trans (XJ hx14 rfl (by assumption))) (Yb hx14).1]; done)
    have e18:(x13:Int)=((l4V s).2.2.2.1):=by
     (rw[KK (hA2.trans (XJ hx14 rfl (by assumption))) (Yb hx14).1]; done)
    have e19:(false:Bool)=((l4V s).2.2.2.2):=by
     (rw[KK (hA2.trans (XJ hx14 rfl (by assumption))) (Yb hx14).1]; done)
    exact QF _ _ [(0,9),(1,10),(2,11)] (Qm rfl (Q3 rfl rfl Vr rfl)) ((((congrArg (fun z_=>ag [.ref 9, .ref 10, .ref 11,dI z_,dI x13,dB false]) e17)).trans (congrArg (fun z_=>ag [.ref 9, .ref 10, .ref 11,dI ((l4V s).2.2.1),dI z_,dB false]) e18)).trans (congrArg (fun z_=>ag [.ref 9, .ref 10, .ref 11,dI ((l4V s).2.2.1),dI ((l4V s).2.2.2.1),dB z_]) e19)) ⟨(Qy (by (rw[KK (hA2.trans (XJ hx14 rfl (by assumption))) (Yb hx14).1]; done))),(Qy (by (rw[KK (hA2.trans (XJ hx14 rfl (by assumption))) (Yb hx14).1]; done))),(Qy (by (rw[KK (hA2.trans (XJ hx14 rfl (by assumption))) (Yb hx14).1]; done))),trivial⟩ rfl rfl
   ·iterate 7 refine w_ ?_
    refine lc (Zm (Kd marks2 ((Zy s.1 mk x13).1)) Qct ⟨_,_,rfl,(Us (Qa rfl) rfl),⟨_,_,rfl,(Ev.b (Qb rfl)),rfl⟩⟩ rfl rfl rfl) ?_
    iterate 7 refine w_ ?_
    cases hb20:(decide ((ZQ marks2 ((Zy s.1 mk x13).1)) < 0))
    ·have hb20':=of_decide_eq_false hb20
     iterate 9 refine w_ ?_
     refine lc (QH K0 ⟨_,_,rfl,(Qb rfl),⟨_,_,rfl,(Qb rfl),⟨_,_,rfl,(Qb rfl),rfl⟩⟩⟩ (List.all_eq_true.1 rfl) rfl rfl)<|lc (Qg 12 (e:=(.pr .int (.pr .int .int))) Z6 Zr Yu rfl ⟨_,_,rfl,(Qb rfl),rfl⟩ (List.all_eq_true.1 rfl) ⟨_,_,_,_,rfl,⟨[dI (k:Int)],[dI x13,dI (ZQ marks2 ((Zy s.1 mk x13).1))],_,_,_,_,rfl,rfl,⟨rfl,rfl⟩,⟨[dI x13],[dI (ZQ marks2 ((Zy s.1 mk x13).1))],_,_,_,_,rfl,rfl,⟨rfl,rfl⟩,⟨rfl,rfl⟩,rfl⟩,rfl⟩,⟨rfl,rfl⟩,rfl⟩ (by decide) rfl rfl (Fresh.of rfl) (nlr rfl))<|lc (QQ 13 (Qa rfl) rfl (Qa rfl) rfl rfl Z6 KI (by first | omega | (simp only[List.length_append,List.length_map,List.length_take,List.length_cons,List.length_nil]; omega) | (simp only[List.length_append,List.length_drop,List.length_take,List.length_cons,List.length_nil]; omega)) rfl (Fresh.of rfl) (nlr rfl)) ?_
     iterate 2 refine w_ ?_
     refine lc (Qe (Qa rfl) rfl (Qb rfl) rfl QbT rfl)<|Qk ?_
     refine (?_:AC _ _ _ _ _)
     iterate 3 refine w_ ?_
     refine Qk<|QU ⟨i+1,marks2,(moves2++([((k:Int),x13,ZQ marks2 ((Zy s.1 mk x13).1))])),by2,by omega,rfl,by first | exact hA2.trans (Qa6 hx14 rfl (by assumption) ⟨by omega,rfl⟩) | exact hA2.trans (Qbp hx14 rfl (by assumption) (by omega) (by assumption)),by first | exact hB2 | exact H0 hB2 (W5 (hB2 _ (List.mem_of_getElem? hM2)) rfl (by assumption)),(by omega),by first | exact hM2 | exact Qfj hM2,(by simp only[List.length_append,List.length_cons,List.length_nil]; omega),(by omega),rfl⟩ (by omega) ?_
     exact Wk.of [(0,0),(1,1),(4,4),(9,9),(10,13),(11,11)] rfl ⟨rfl,rfl,rfl,rfl,rfl,rfl,rfl,rfl,rfl,rfl,rfl,rfl,rfl,rfl,rfl,rfl,rfl,rfl,trivial⟩ ⟨rfl,rfl,rfl,rfl,(Qy (by first | rfl | simp)),rfl,trivial⟩ rfl rfl
    ·have hb20':=of_decide_eq_true hb20
     iterate 9 refine w_ ?_
     cases hb21:(decide ((marks2.length:Int)=300))
     ·have hb21':=of_decide_eq_false hb21
      iterate 14 refine w_ ?_
      refine lc (Qg 14 (e:= .str) Zi Ze QiT rfl ⟨_,_,rfl,(Qb rfl),rfl⟩ (List.all_eq_true.1 rfl) ⟨_,_,_,_,rfl,⟨rfl,rfl⟩,⟨rfl,rfl⟩,rfl⟩ (by decide) rfl rfl (Fresh.of rfl) (nlr rfl))<|lc (QQ 15 (Qa rfl) rfl (Qa rfl) rfl rfl Zi Qn3 (by first | omega | (simp only[List.length_append,List.length_map,List.length_take,List.length_cons,List.length_nil]; omega) | (simp only[List.length_append,List.length_drop,List.length_take,List.length_cons,List.length_nil]; omega)) rfl (Fresh.of rfl) (nlr rfl)) ?_
      iterate 2 refine w_ ?_
      refine lc (Qe (Qa rfl) rfl (Qb rfl) rfl Xe rfl) ?_
      iterate 7 refine w_ ?_
      refine lc (QH K0 ⟨_,_,rfl,(Qb rfl),⟨_,_,rfl,(Qb rfl),⟨_,_,rfl,(Qb rfl),rfl⟩⟩⟩ (List.all_eq_true.1 rfl) rfl rfl)<|lc (Qg 16 (e:=(.pr .int (.pr .int .int))) Z6 Zr Yu rfl ⟨_,_,rfl,(Qb rfl),rfl⟩ (List.all_eq_true.1 rfl) ⟨_,_,_,_,rfl,⟨[dI (k:Int)],[dI x13,dI (marks2.length:Int)],_,_,_,_,rfl,rfl,⟨rfl,rfl⟩,⟨[dI x13],[dI (marks2.length:Int)],_,_,_,_,rfl,rfl,⟨rfl,rfl⟩,⟨rfl,rfl⟩,rfl⟩,rfl⟩,⟨rfl,rfl⟩,rfl⟩ (by decide) rfl rfl (Fresh.of rfl) (nlr rfl))<|lc (QQ 17 (Qa rfl) rfl (Qa rfl) rfl rfl Z6 KI (by first | omega | (simp only[List.length_append,List.length_map,List.length_take,List.length_cons,List.length_nil]; omega) | (simp only[List.length_append,List.length_drop,List.length_take,List.length_cons,List.length_nil]; omega)) rfl (Fresh.of rfl) (nlr rfl)) ?_
      refine w_ ?_
      refine lc (Qe (Qa rfl) rfl (Qb rfl) rfl QbT rfl) ?_
      iterate 8 refine w_ ?_
      refine lc (QH K0 ⟨_,_,rfl,(Qb rfl),⟨_,_,rfl,(Qb rfl),⟨_,_,rfl,(Qb rfl),rfl⟩⟩⟩ (List.all_eq_true.1 rfl) rfl rfl)<|lc (Qg 18 (e:=(.pr .int (.pr .int .int))) Z6 Zr Yu rfl ⟨_,_,rfl,(Qb rfl),rfl⟩ (List.all_eq_true.1 rfl) ⟨_,_,_,_,rfl,⟨[dI (k:Int)],[dI x13,dI (marks2.length:Int)],_,_,_,_,rfl,rfl,⟨rfl,rfl⟩,⟨[dI x13],[dI (marks2.length:Int)],_,_,_,_,rfl,rfl,⟨rfl,rfl⟩,⟨rfl,rfl⟩,rfl⟩,rfl⟩,⟨rfl,rfl⟩,rfl⟩ (by decide) rfl rfl (Fresh.of rfl) (nlr rfl))<|lc (QQ 19 (Qa rfl) rfl (Qa rfl) rfl rfl Z6 KI (by first | omega | (simp only[List.length_append,List.length_map,List.length_take,List.length_cons,List.length_nil]; omega) | (simp only[List.length_append,List.length_drop,List.length_take,List.length_cons,List.length_nil]; omega)) rfl (Fresh.of rfl) (nlr rfl)) ?_
      iterate 2 refine w_ ?_
      refine lc (Qe (Qa rfl) rfl (Qb rfl) rfl QbT rfl)<|Qk ?_
      refine (?_:AC _ _ _ _ _)
      iterate 3 refine w_ ?_
      refine Qk<|QU ⟨i+1,(marks2++([(Zy s.1 mk x13).1])),(moves2++([((k:Int),x13,(marks2.length:Int))])),(by2++([((k:Int),x13,(marks2.length:Int))])),by omega,rfl,by first | exact hA2.trans (Qa6 hx14 rfl (by assumption) ⟨by omega,rfl⟩) | exact hA2.trans (Qbp hx14 rfl (by assumption) (by omega) (by assumption)),by first | exact hB2 | exact H0 hB2 (W5 (hB2 _ (List.mem_of_getElem? hM2)) rfl (by assumption)),(by (simp only[List.length_append,List.length_cons,List.length_nil]; omega)),by first | exact hM2 | exact Qfj hM2,(by simp only[List.length_append,List.length_cons,List.length_nil]; omega),(by (simp only[List.length_append,List.length_cons,List.length_nil]; omega)),rfl⟩ (by omega) ?_
      exact Wk.of [(0,0),(1,1),(4,4),(9,15),(10,19),(11,17)] rfl ⟨rfl,rfl,rfl,rfl,rfl,rfl,rfl,rfl,rfl,rfl,rfl,rfl,rfl,rfl,rfl,rfl,rfl,rfl,trivial⟩ ⟨rfl,rfl,rfl,(Qy (by first | rfl | simp)),(Qy (by first | rfl | simp)),(Qy (by first | rfl | simp)),trivial⟩ rfl rfl
     ·have hb21':=of_decide_eq_true hb21
      iterate 3 refine w_ ?_
      refine lc (Qe (Qa rfl) rfl (Evl.ev Yy) rfl WW rfl) ?_
      iterate 3 refine w_ ?_
      refine lc (Qe (Qa rfl) rfl (Qb rfl) rfl Vr rfl) ?_
      refine w_ ?_
      refine Qf ?_
      subst hO
      have e22:(0:Int)=((l4V s).2.2.1):=by
       (rw[Uq (hA2.trans (YR hx14 rfl (by assumption) (by omega) (by assumption)))]; done)
      have e23:((-1):Int)=((l4V s).2.2.2.1):=by
       (rw[Uq (hA2.trans (YR hx14 rfl (by assumption) (by omega) (by assumption)))]; done)
      have e24:(true:Bool)=((l4V s).2.2.2.2):=by
       (rw[Uq (hA2.trans (YR hx14 rfl (by assumption) (by omega) (by assumption)))]; done)
      exact QF _ _ [(0,9),(1,10),(2,11)] (Qm rfl (Q3 rfl rfl Vr rfl)) ((((congrArg (fun z_=>ag [.ref 9, .ref 10, .ref 11,dI z_,dI (-1),dB true]) e22)).trans (congrArg (fun z_=>ag [.ref 9, .ref 10, .ref 11,dI ((l4V s).2.2.1),dI z_,dB true]) e23)).trans (congrArg (fun z_=>ag [.ref 9, .ref 10, .ref 11,dI ((l4V s).2.2.1),dI ((l4V s).2.2.2.1),dB z_]) e24)) ⟨(Qy (by (rw[Uq (hA2.trans (YR hx14 rfl (by assumption) (by omega) (by assumption)))]; done))),(Qy (by (rw[Uq (hA2.trans (YR hx14 rfl (by assumption) (by omega) (by assumption)))]; done))),(Qy (by (rw[Uq (hA2.trans (YR hx14 rfl (by assumption) (by omega) (by assumption)))]; done))),trivial⟩ rfl rfl
end Go.Proofs.YtnakmhfjafecpaaGreat
