/- Abstract states: regions that draw their order: their head's operations in whatever order, each by what it does to the state; then the tail in order. No program is named here. -/
import Derived.Test.YtfkmmpfdncopdaaGreatNAr
set_option linter.unusedSimpArgs false
set_option linter.unusedVariables false
set_option linter.unusedSectionVars false
namespace Go.Proofs.YtfkmmpfdncopdaaGreat
open Go.RowKit
structure Item where
  d:Option Nat
  pv:PV
  T:Tab
@[reducible] def Ks (tm:List (Nat×PV)):Option Nat→PV→List (Nat×PV)
  | some d,pv=>(d,pv) :: tm
  | none,_=>tm
def pTm:List Item→(Nat→Bool)→Nat→List (Nat×PV)→List (Nat×PV)
  | [],_,_,acc=>acc
  | it :: l,D,k,acc=>pTm l D (k+1) (match D k with
    | true=>Ks acc it.d it.pv
    | false=>acc)
def pTb:List Item→(Nat→Bool)→Nat→Tab→Tab
  | [],_,_,acc=>acc
  | it :: l,D,k,acc=>pTb l D (k+1) (match D k with
    | true=>it.T++acc
    | false=>acc)
@[reducible] def stD (plan:List Item) (s0:St) (D:Nat→Bool):St:=⟨pTm plan D 0 s0.tm,pTb plan D 0 s0.tab⟩
theorem WN (tm:List (Nat×PV))(o:Option Nat)(pv:PV)(t:Nat):lk (Ks tm o pv) t=if o=some t then some pv else lk tm t:=by
  cases o with
  | none=>simp[Ks]
  | some d=>
    simp only[Ks,Y8,bk]
    by_cases h:t=d
    · simp[h]
    · rw[if_neg h,if_neg (fun e=>h e.symm)]
theorem Jz {D D':Nat→Bool}{t:Nat}:∀{l:List Item} {k:Nat} {acc acc':List (Nat×PV)},(∀j it,l[j]? =some it→it.d=some t→D (k+j)=D' (k+j))→lk acc t=lk acc' t→lk (pTm l D k acc) t=lk (pTm l D' k acc') t
  | [],_,_,_,_,h=>h
  | it :: l,k,acc,acc',hw,h=>by
    refine Jz (l:=l) (k:=k+1) (fun j it' hj ht=> ?_) ?_
    · have := hw (j + 1) it' (by simpa using hj) ht
      rwa [show k+1+j=k+(j+1) by omega]
    · by_cases hd : it.d = some t
      · have := hw 0 it rfl hd
        rw[dk] at this
        rw[this]
        cases D' k with
        | true=>show lk (Ks acc it.d it.pv) t=lk (Ks acc' it.d it.pv) t; rw[WN,WN,if_pos hd,if_pos hd]
        | false=>exact h
      · have e1:∀(b:Bool) (a:List (Nat×PV)),lk (match b with | true=>Ks a it.d it.pv | false=>a) t=lk a t:=by
          intro b a; cases b
          · rfl
          · simp only[WN,if_neg hd]
        rw[e1,e1]; exact h
def Eqv (T T':Tab):Prop:=∀q,T.ent q=T'.ent q
def QnM (q:Nat)(T:Tab):Bool:=inB q (T.map (·.1))
theorem VP (U T:Tab)(q:Nat):Tab.ent (U++T) q=if q∈U.map (·.1) then U.ent q else T.ent q:=by
  induction U with
  | nil=>simp
  | cons x U ih=>
    obtain ⟨j,o⟩:=x
    rw[cJ,Qh,Qh,ih]
    by_cases h:q=j
    · simp[h]
    · have hm : (q ∈ ((j, o) :: U).map (·.1)) ↔ q ∈ U.map (·.1) := by simp [h]
      rw[if_neg h,if_neg h]
      by_cases h2:q∈U.map (·.1)
      · rw[if_pos h2,if_pos (hm.2 h2)]
      · rw[if_neg h2,if_neg (fun h3=>h2 (hm.1 h3))]
theorem VF {D D':Nat→Bool}{q:Nat}:∀{l:List Item} {k:Nat} {acc acc':Tab},(∀j it,l[j]? =some it→q∈it.T.map (·.1)→D (k+j)=D' (k+j))→acc.ent q=acc'.ent q→(pTb l D k acc).ent q=(pTb l D' k acc').ent q
  | [],_,_,_,_,h=>h
  | it :: l,k,acc,acc',hw,h=>by
    refine VF (l:=l) (k:=k+1) (fun j it' hj ht=> ?_) ?_
    · have := hw (j + 1) it' (by simpa using hj) ht
      rwa [show k+1+j=k+(j+1) by omega]
    · by_cases hd : q ∈ it.T.map (·.1)
      · have := hw 0 it rfl hd
        rw[dk] at this
        rw[this]
        cases D' k with
        | true=>simp only[VP,if_pos hd]
        | false=>exact h
      · have e1:∀(b:Bool) (a:Tab),Tab.ent (match b with | true=>it.T++a | false=>a) q=a.ent q:=by
          intro b a; cases b
          · rfl
          · simp only[VP,if_neg hd]
        rw[e1,e1]; exact h
def VG (D:Nat→Bool)(i:Nat):Nat→Bool:=fun k=>match Nat.beq k i with
  | true=>true
  | false=>D k
theorem JH (D:Nat→Bool)(i:Nat):VG D i i=true:=by simp[VG]
theorem XJ (D:Nat→Bool){i k:Nat}(h:k≠i):VG D i k=D k:=by
  have:Nat.beq k i=false:=by
    cases h':Nat.beq k i with
    | true=>exact absurd (aX h') h
    | false=>rfl
  simp[VG,this]
theorem QiU {D:Nat→Bool}{t:Nat}:∀{l:List Item} {k i:Nat} {it:Item} {acc:List (Nat×PV)},l[i]? =some it→D (k+i)=false→(∀j jt,l[j]? =some jt→j≠i→D (k+j)=true→jt.d≠none→jt.d≠it.d)→
    lk (pTm l (VG D (k+i)) k acc) t=lk (Ks (pTm l D k acc) it.d it.pv) t
  | [],_,_,_,_,h,_,_=>by simp at h
  | x :: l,k,0,it,acc,h,hD,hd=>by
    have hx:x=it:=by simpa using h
    subst hx
    have hD:D k=false:=hD
    show lk (pTm l (VG D k) (k+1) (match VG D k k with | true=>Ks acc x.d x.pv | false=>acc)) t=lk (Ks (pTm l D (k+1) (match D k with | true=>Ks acc x.d x.pv | false=>acc)) x.d x.pv) t
    rw[JH,hD]
    show lk (pTm l (VG D k) (k+1) (Ks acc x.d x.pv)) t=lk (Ks (pTm l D (k+1) acc) x.d x.pv) t
    rw[WN]
    by_cases hxt:x.d=some t
    · rw [if_pos hxt]
      have key:∀(l:List Item) (m:Nat) (acc:List (Nat×PV)),(∀j jt,l[j]? =some jt→D (m+j)=true→jt.d≠some t)→k < m→lk acc t=some x.pv→lk (pTm l (VG D k) m acc) t=some x.pv:=by
        intro l
        induction l with
        | nil=>intro m acc _ _ h; exact h
        | cons y l ih=>
          intro m acc hn hm h
          refine ih (m+1) _ (fun j jt hj hDj=>hn (j+1) jt (by simpa using hj) (by rwa [show m+(j+1)=m+1+j by omega])) (by omega) ?_
          rw[XJ D (show m≠k by omega)]
          cases hDm:D m with
          | false=>exact h
          | true=>
            have:=hn 0 y rfl hDm
            simp only[WN,if_neg this]
            exact h
      exact key l (k+1) _ (fun j jt hj hDj hjt=>hd (j+1) jt (by simpa using hj) (by omega) (by rwa [show k+(j+1)=k+1+j by omega]) (by rw[hjt]; simp) (by rw[hjt,hxt])) (by omega) (by rw[WN,if_pos hxt])
    · rw [if_neg hxt]
      refine Jz (fun j jt hj ht=>XJ D (by omega)) ?_
      simp[WN,hxt]
  | x :: l,k,i+1,it,acc,h,hD,hd=>by
    have:=QiU (D:=D) (t:=t) (l:=l) (k:=k+1) (i:=i) (it:=it) (acc:=match D k with | true=>Ks acc x.d x.pv | false=>acc) (by simpa using h) (by rwa [show k+1+i=k+(i+1) by omega]) fun j jt hj hne hDj=>hd (j+1) jt (by simpa using hj) (by omega) (by rwa [show k+(j+1)=k+1+j by omega])
    rw[show k+1+i=k+(i+1) by omega] at this
    show lk (pTm l (VG D (k+(i+1))) (k+1) (match VG D (k+(i+1)) k with | true=>Ks acc x.d x.pv | false=>acc)) t=_
    rw[XJ D (show k≠k+(i+1) by omega)]
    exact this
theorem Qjl {D:Nat→Bool}{q:Nat}:∀{l:List Item} {k i:Nat} {it:Item} {acc:Tab},l[i]? =some it→D (k+i)=false→(∀j jt,l[j]? =some jt→i < j→D (k+j)=true→q∈it.T.map (·.1)→q∉jt.T.map (·.1))→
    (pTb l (VG D (k+i)) k acc).ent q=Tab.ent (it.T++pTb l D k acc) q
  | [],_,_,_,_,h,_,_=>by simp at h
  | x :: l,k,0,it,acc,h,hD,hd=>by
    have hx:x=it:=by simpa using h
    subst hx
    have hD:D k=false:=hD
    show (pTb l (VG D k) (k+1) (match VG D k k with | true=>x.T++acc | false=>acc)).ent q=Tab.ent (x.T++pTb l D (k+1) (match D k with | true=>x.T++acc | false=>acc)) q
    rw[JH,hD]
    show (pTb l (VG D k) (k+1) (x.T++acc)).ent q=Tab.ent (x.T++pTb l D (k+1) acc) q
    rw[VP]
    by_cases hxt:q∈x.T.map (·.1)
    · rw [if_pos hxt]
      have key:∀(l:List Item) (m:Nat) (acc:Tab),(∀j jt,l[j]? =some jt→D (m+j)=true→q∉jt.T.map (·.1))→k < m→acc.ent q=x.T.ent q→(pTb l (VG D k) m acc).ent q=x.T.ent q:=by
        intro l
        induction l with
        | nil=>intro m acc _ _ h; exact h
        | cons y l ih=>
          intro m acc hn hm h
          refine ih (m+1) _ (fun j jt hj hDj=>hn (j+1) jt (by simpa using hj) (by rwa [show m+(j+1)=m+1+j by omega])) (by omega) ?_
          rw[XJ D (show m≠k by omega)]
          cases hDm:D m with
          | false=>exact h
          | true=>
            have:=hn 0 y rfl hDm
            simp only[VP,if_neg this]
            exact h
      exact key l (k+1) _ (fun j jt hj hDj=>hd (j+1) jt (by simpa using hj) (by omega) (by rwa [show k+(j+1)=k+1+j by omega]) hxt) (by omega) (by rw[VP,if_pos hxt])
    · rw [if_neg hxt]
      refine VF (fun j jt hj ht=>XJ D (by omega)) ?_
      rw[VP,if_neg hxt]
  | x :: l,k,i+1,it,acc,h,hD,hd=>by
    have:=Qjl (D:=D) (q:=q) (l:=l) (k:=k+1) (i:=i) (it:=it) (acc:=match D k with | true=>x.T++acc | false=>acc) (by simpa using h) (by rwa [show k+1+i=k+(i+1) by omega]) fun j jt hj hlt hDj=>hd (j+1) jt (by simpa using hj) (by omega) (by rwa [show k+(j+1)=k+1+j by omega])
    rw[show k+1+i=k+(i+1) by omega] at this
    show (pTb l (VG D (k+(i+1))) (k+1) (match VG D (k+(i+1)) k with | true=>x.T++acc | false=>acc)).ent q=_
    rw[XJ D (show k≠k+(i+1) by omega)]
    exact this
theorem Qi8 {D:Nat→Bool}{t:Nat}{pv:PV}:∀{l:List Item} {k:Nat} {acc:List (Nat×PV)},lk (pTm l D k acc) t=some pv→(∃j it,l[j]? =some it∧D (k+j)=true∧it.pv=pv)∨lk acc t=some pv
  | [],_,_,h=> .inr h
  | x :: l,k,acc,h=>by
    rcases Qi8 (l:=l) h with ⟨j,it,h1,h2,h3⟩ | h1
    · exact .inl ⟨j+1,it,by simpa using h1,by rwa [show k+(j+1)=k+1+j by omega],h3⟩
    · cases hD : D k with
      | false=>rw[hD] at h1; exact .inr h1
      | true=>
        rw[hD] at h1
        simp only[WN] at h1
        by_cases hx:x.d=some t
        · rw [if_pos hx] at h1
          cases h1
          exact .inl ⟨0,x,rfl,hD,rfl⟩
        · rw[if_neg hx] at h1; exact .inr h1
theorem QeV {D:Nat→Bool}{q:Nat}{e:Ent}:∀{l:List Item} {k:Nat} {acc:Tab},(pTb l D k acc).ent q=some e→(∃j it,l[j]? =some it∧D (k+j)=true∧it.T.ent q=some e)∨acc.ent q=some e
  | [],_,_,h=> .inr h
  | x :: l,k,acc,h=>by
    rcases QeV (l:=l) h with ⟨j,it,h1,h2,h3⟩ | h1
    · exact .inl ⟨j+1,it,by simpa using h1,by rwa [show k+(j+1)=k+1+j by omega],h3⟩
    · cases hD : D k with
      | false=>rw[hD] at h1; exact .inr h1
      | true=>
        rw[hD] at h1
        simp only[VP] at h1
        by_cases hx:q∈x.T.map (·.1)
        · rw [if_pos hx] at h1
          exact .inl ⟨0,x,rfl,hD,h1⟩
        · rw[if_neg hx] at h1; exact .inr h1
theorem Rg.ext {A:Amb}{s s':St}{gh:Gh}{a:Act}{w:World}(r:Rg A s gh a w)(ht:∀i,lk s'.tm i=lk s.tm i)(he:∀q,s'.tab.ent q=s.tab.ent q):Rg A s' gh a w:=by
  have hal:∀q,s'.tab.al q↔s.tab.al q:=fun q=>by unfold Tab.al; rw[he]
  have hal':s'.tab.al=s.tab.al:=funext fun q=>propext (hal q)
  exact ⟨⟨fun q e h=>by rw[hal']; exact r.cx.en q e (by rw[← he]; exact h),fun q q' h1 h2=>r.cx.dj q q' ((hal q).1 h1) ((hal q').1 h2),fun q h=>r.cx.nd q ((hal q).1 h),fun q h=>r.cx.no q ((hal q).1 h),r.cx.nl⟩,
    r.sz,r.df,fun i pv h=>by rw[hal']; exact r.tm i pv (by rw[← ht]; exact h),r.gw,r.kp,r.fr,fun q h=>r.ox q ((hal q).1 h),fun q hq h=>r.hh q hq ((hal q).1 h),r.xn⟩
def Acts (A:Amb)(P:Program)(ops:Array Oper)(o:Oper)(s s':St):Prop:=∀a w K Q,R A s a w→(∀a' w',R A s' a' w'→K a' w')→if Region.wanted o (yielded ops a.tmps)=true then o.wp P a w K Q else K (a.put o.dst undef) w
section
variable {A:Amb}{P:Program}{ops:Array Oper}{o:Oper}{s s':St}
theorem Acts.of (hg:o.guard=none)(h:Does A P o s s'):Acts A P ops o s s':=fun a w K Q r hK=>by
  rw[if_pos (by simp[Region.wanted,hg])]
  exact h a w K Q r hK
theorem QlB {j d:Nat}{b:Bool}(hg:o.guard=some (j,b))(hd:(ops[j]?).bind (·.dst)=some d)(hb:lk s.tm d=some (lf (dB b)))(h:Does A P o s s'):Acts A P ops o s s':=fun a w K Q r hK=>by
  obtain ⟨gh,r'⟩:=r
  rw[if_pos (by simp[Region.wanted,hg,V7 hd hb r'])]
  exact h a w K Q ⟨gh,r'⟩ hK
theorem Qn2 {j d d':Nat}{b:Bool}(hg:o.guard=some (j,b))(hd:(ops[j]?).bind (·.dst)=some d)(hb:lk s.tm d=some (lf (dB (!b))))(ho:o.dst=some d')(hn:Nat.blt d' A.n=true):Acts A P ops o s (s.put d' (lf (.val undef))):=fun a w K Q r hK=>by
  obtain ⟨gh,r'⟩:=r
  rw[if_neg (by simp[Region.wanted,hg,V7 hd hb r']),ho]
  exact hK _ _ ⟨gh,r'.put (aG hn) (pv:=lf (.val undef)) ⟨_,rfl,rfl⟩⟩
end
@[reducible] def QmF (deps:List (List Nat)) (i:Nat):Nat→Bool:=fun k=>inB k (deps.getD i [])
def QbJ (ops:Array Oper)(deps:List (List Nat))(n:Nat):Bool:=(List.range n).all fun i=>match ops[i]? with
  | some o=>(deps.getD i []).all fun k=>o.after.toList.any fun e=>Region.binds .any e&&(Nat.beq e.on k||inB k (deps.getD e.on []))
  | none=>false
def QbX (plan:List Item)(deps:List (List Nat)):Bool:=(List.range plan.length).all fun i=>(List.range plan.length).all fun j=>match plan[i]?,plan[j]? with
  | some a,some b=>(Nat.beq i j||(match a.d,b.d with
      | some x,some y=> !(Nat.beq x y)
      | _,_=>true))&&(!(Nat.blt i j)||inB i (deps.getD j [])||(a.T.map (·.1)).all fun q=> !(QnM q b.T))
  | _,_=>false
def Qpn (plan:List Item)(deps:List (List Nat))(i t:Nat):Bool:=(List.range plan.length).all fun j=>match plan[j]? with
  | some it=>(match it.d with
      | some d=> !(Nat.beq d t)
      | none=>true)||inB j (deps.getD i [])||inB i (deps.getD j [])
  | none=>false
def Qr9 (plan:List Item)(deps:List (List Nat))(i q:Nat):Bool:=(List.range plan.length).all fun j=>match plan[j]? with
  | some it=> !(QnM q it.T)||inB j (deps.getD i [])||Nat.beq j i||inB i (deps.getD j [])
  | none=>false
def Qsf (plan:List Item)(deps:List (List Nat))(i q j:Nat):Bool:=(List.range plan.length).all fun m=>match plan[m]? with
  | some it=> !(QnM q it.T)||inB m (deps.getD i [])||Nat.beq m i||inB i (deps.getD m [])||Nat.beq m j
  | none=>false
@[reducible] def Qse (deps:List (List Nat)) (i j:Nat):Nat→Bool:=fun k=>inB k (deps.getD i [])||Nat.beq k j
def QrM (plan:List Item)(deps:List (List Nat))(s0:St)(i q:Nat):Bool:=QhZ s0 q&&(List.range plan.length).all fun j=>match plan[j]? with
  | some it=>Nat.beq j i||inB i (deps.getD j [])|| !(inB q (it.pv.tags++Zz it.T))
  | none=>false
structure At (plan:List Item) (deps:List (List Nat)) (s0:St) (i:Nat) (s:St):Prop where
  tm:∀t,Qpn plan deps i t=true→lk s.tm t=lk (pTm plan (QmF deps i) 0 s0.tm) t
  en:∀q,Qr9 plan deps i q=true→s.tab.ent q=(pTb plan (QmF deps i) 0 s0.tab).ent q
  fr:∀q,QrM plan deps s0 i q=true→Fresh s q
  en2:∀q j,Qsf plan deps i q j=true→s.tab.ent q=(pTb plan (QmF deps i) 0 s0.tab).ent q∨s.tab.ent q=(pTb plan (Qse deps i j) 0 s0.tab).ent q
section
variable {A:Amb}{P:Program}{plan:List Item}{deps:List (List Nat)}{s0:St}
theorem Qez {q:Nat}{l:List Nat}:inB q l=true↔q∈l:=by
  induction l with
  | nil=>simp[inB]
  | cons r rs ih=>
    unfold inB
    cases e:Nat.beq q r with
    | true=>simp[aX e]
    | false=>
      have:q≠r:=fun h=>by rw[h,d8] at e; cases e
      simp[ih,this]
theorem Jn {q:Nat}{T:Tab}:QnM q T=true↔q∈T.map (·.1):=Qez
theorem Yk {n i:Nat}{f:Nat→Bool}(h:(List.range n).all f=true)(hi:i < n):f i=true:=aB.1 h i (bY.2 hi)
theorem QsI {D:Nat→Bool}(hdown:∀k,k < plan.length→D k=true→∀j,inB j (deps.getD k [])=true→D j=true){i:Nat}(hi:i < plan.length)(hDi:D i=false)(hdi:∀j,inB j (deps.getD i [])=true→D j=true):At plan deps s0 i (stD plan s0 D):=by
  refine ⟨fun t ht=>Jz (fun j it hj hit=> ?_) rfl,fun q hq=>VF (fun j it hj hit=> ?_) rfl,fun q hq=> ?_,fun q j hq=> ?_⟩
  · have hj' : j < plan.length := (ah.1 hj).1
    have h1:=Yk ht hj'
    simp only[hj,hit,d8,Bool.not_true,Bool.false_or,bS] at h1
    rw[bn]
    rcases h1 with h1 | h1
    · exact (hdi j h1).trans h1.symm
    · have hDj:D j=false:=by
        cases h2:D j with
        | true=>have:=hdown j hj' h2 i h1; rw[hDi] at this; cases this
        | false=>rfl
      show D j=inB j (deps.getD i [])
      rw[hDj]
      cases h2:inB j (deps.getD i []) with
      | true=>have:=hdi j h2; rw[hDj] at this; cases this
      | false=>rfl
  · have hj' : j < plan.length := (ah.1 hj).1
    have h1:=Yk hq hj'
    simp only[hj,Jn.2 hit,Bool.not_true,Bool.false_or,bS] at h1
    rw[bn]
    rcases h1 with (h1 | h1) | h1
    · exact (hdi j h1).trans h1.symm
    · have h1 := aX h1
      subst h1
      show D j=inB j (deps.getD j [])
      cases h2:inB j (deps.getD j []) with
      | true=>rw[hdi j h2]
      | false=>exact hDi
    · have hDj:D j=false:=by
        cases h2:D j with
        | true=>have:=hdown j hj' h2 i h1; rw[hDi] at this; cases this
        | false=>rfl
      show D j=inB j (deps.getD i [])
      rw[hDj]
      cases h2:inB j (deps.getD i []) with
      | true=>have:=hdi j h2; rw[hDj] at this; cases this
      | false=>rfl
  · simp only [QrM, aL] at hq
    have hF:=Fresh.of hq.1
    have hk:∀j it,plan[j]? =some it→D j=true→q∉it.pv.tags++Zz it.T:=fun j it hj hDj hm=>by
      have hj':j < plan.length:=(ah.1 hj).1
      have h1:=Yk hq.2 hj'
      simp only[hj,bS,bM] at h1
      rcases h1 with (h1 | h1) | h1
      · rw[aX h1,hDi] at hDj; cases hDj
      · have:=hdown j hj' hDj i h1; rw[hDi] at this; cases this
      · exact QcJ h1 hm
    refine ⟨fun t pv h hm=> ?_,fun r e h hm=> ?_,fun ⟨e,h⟩=> ?_⟩
    · rcases Qi8 h with ⟨j, it, h1, h2, rfl⟩ | h1
      · exact hk j it h1 (by simpa using h2) (aQ _ hm)
      · exact hF.tm t pv h1 hm
    · rcases QeV h with ⟨j, it, h1, h2, h3⟩ | h1
      · exact hk j it h1 (by simpa using h2) (aT _ ((Zb h3).2 q hm))
      · exact hF.en r e h1 hm
    · rcases QeV h with ⟨j, it, h1, h2, h3⟩ | h1
      · exact hk j it h1 (by simpa using h2) (aT _ (Zb h3).1)
      · exact hF.al ⟨e,h1⟩
  · have hii:inB i (deps.getD i [])=false:=by
      cases h2:inB i (deps.getD i []) with
      | true=>have:=hdi i h2; rw[hDi] at this; cases this
      | false=>rfl
    cases hDj:D j with
    | false=>
      refine .inl (VF (fun m it hm hit=> ?_) rfl)
      have hm':m < plan.length:=(ah.1 hm).1
      have h1:=Yk hq hm'
      simp only[hm,Jn.2 hit,Bool.not_true,Bool.false_or,bS] at h1
      rw[bn]
      have hno:D m=false→D m=inB m (deps.getD i []):=fun h=>by
        cases h2:inB m (deps.getD i []) with
        | true=>have:=hdi m h2; rw[h] at this; cases this
        | false=>exact h
      rcases h1 with ((h1 | h1) | h1) | h1
      · exact (hdi m h1).trans h1.symm
      · have h1 := aX h1
        subst h1
        exact hno hDi
      · refine hno ?_
        cases h2:D m with
        | true=>have:=hdown m hm' h2 i h1; rw[hDi] at this; cases this
        | false=>rfl
      · have h1 := aX h1
        subst h1
        exact hno hDj
    | true=>
      refine .inr (VF (fun m it hm hit=> ?_) rfl)
      have hm':m < plan.length:=(ah.1 hm).1
      have h1:=Yk hq hm'
      simp only[hm,Jn.2 hit,Bool.not_true,Bool.false_or,bS] at h1
      rw[bn]
      have hno:D m=false→D m=(inB m (deps.getD i [])||Nat.beq m j):=fun h=>by
        rw[h]
        cases h2:inB m (deps.getD i []) with
        | true=>have:=hdi m h2; rw[h] at this; cases this
        | false=>
          cases h3:Nat.beq m j with
          | true=>have h3:=aX h3; subst h3; rw[hDj] at h; cases h
          | false=>rfl
      rcases h1 with ((h1 | h1) | h1) | h1
      · show D m = (inB m (deps.getD i []) || Nat.beq m j)
        rw[hdi m h1,h1]; rfl
      · have h1 := aX h1
        subst h1
        exact hno hDi
      · refine hno ?_
        cases h2:D m with
        | true=>have:=hdown m hm' h2 i h1; rw[hDi] at this; cases this
        | false=>rfl
      · have h1' := aX h1
        subst h1'
        show D m=(inB m (deps.getD i [])||Nat.beq m m)
        rw[hDj,d8,Bool.or_true]
@[reducible] def Jk (s:St) (it:Item):St:=⟨Ks s.tm it.d it.pv,it.T++s.tab⟩
theorem Qgi {ops:Array Oper}{Q:Exit→Act→World→Prop}(hn:ops.size=plan.length)(hd:QbJ ops deps plan.length=true)(hp:QbX plan deps=true)(hH:JO ops plan.length=true)
    (H:∀i o it,ops[i]? =some o→plan[i]? =some it→∀s,At plan deps s0 i s→Acts A P ops o s (Jk s it))
    (hQ:∀a w,R A (stD plan s0 fun _=>true) a w→Q .normal a w):∀(f:Nat) (listed:Array Bool) (a:Act) (w:World),listed.size=plan.length→((List.range plan.length).filter fun i=> !(listed.getD i true)).length≤f→
      (∀k,k < plan.length→listed.getD k false=true→∀j,inB j (deps.getD k [])=true→listed.getD j false=true)→R A (stD plan s0 fun k=>listed.getD k false) a w→wpAnyH P .any ops Q (fun _=>True) f listed a w:=by
  have hnone:∀(listed:Array Bool) (a:Act) (w:World),listed.size=plan.length→Region.ready .any ops listed=[]→R A (stD plan s0 fun k=>listed.getD k false) a w→Q .normal a w:=fun listed a w hs hr r=>by
    have hall:=QgM (ops:=ops) (n:=plan.length) hH hs (fun i hi h=>by
      rw[hn,Nat.sub_self,Array.replicate_zero,Array.append_empty] at h
      rw[hr] at h; cases h) (by omega)
    refine hQ a w ?_
    obtain ⟨gh,r⟩:=r
    have e:∀k,k < plan.length→listed.getD k false=true:=fun k hk=>by
      have:=hall k hk
      have h2:k < listed.size:=by omega
      simpa [h2] using this
    refine ⟨gh,r.ext (fun t=>Jz (fun j it hj _=> ?_) rfl) fun q=>VF (fun j it hj _=> ?_) rfl⟩
    · rw[bn,e j (ah.1 hj).1]
    · rw[bn,e j (ah.1 hj).1]
  have step:∀(listed:Array Bool) (a:Act) (w:World) (i:Nat) (K:Act→World→Prop),listed.size=plan.length→
      (∀k,k < plan.length→listed.getD k false=true→∀j,inB j (deps.getD k [])=true→listed.getD j false=true)→R A (stD plan s0 fun k=>listed.getD k false) a w→i∈Region.ready .any ops listed→
      (∀a' w',(∀k,k < plan.length→(listed.setIfInBounds i true).getD k false=true→∀j,inB j (deps.getD k [])=true→(listed.setIfInBounds i true).getD j false=true)→R A (stD plan s0 fun k=>(listed.setIfInBounds i true).getD k false) a' w'→K a' w')→wpOp P ops Q i K a w:=fun listed a w i K hs hdown r hi hK=>by
    obtain ⟨hun,o,ho,hedge⟩:=mem_ready.1 hi
    have hio:i < ops.size:=(bP.1 ho).1
    have hip:i < plan.length:=by omega
    have hDi:listed.getD i false=false:=by
      have:i < listed.size:=by omega
      simpa [this] using hun
    have hdi:∀j,inB j (deps.getD i [])=true→listed.getD j false=true:=fun j hj=>by
      have h1:=Yk hd hip
      simp only[ho] at h1
      have h2:=aB.1 h1 j (Qez.1 hj)
      obtain ⟨e,he,h3⟩:=bC.1 h2
      simp only[aL,bS] at h3
      have h4:=hedge e (by simpa using he) h3.1
      rcases h3.2 with h5 | h5
      · rw[← aX h5]; exact h4
      · have h6:e.on < plan.length:=by
          have h7:=Yk hH hip
          simp only[ho,aL,Array.all_eq_true_iff_forall_mem,bS,bM,aV] at h7
          have:=h7.1 e (by simpa using he)
          rw[h3.1] at this
          have h8:e.on < i:=by simpa using this
          omega
        exact hdown e.on h6 h4 j h5
    have hit:plan[i]? =some plan[i]:=aa hip
    have hat:=QsI (s0:=s0) (D:=fun k=>listed.getD k false) hdown hip hDi hdi
    have hact:=H i o plan[i] ho hit _ hat
    have hset:∀k,(listed.setIfInBounds i true).getD k false=VG (fun k=>listed.getD k false) i k:=fun k=>by
      by_cases e:k=i
      · subst e
        rw[JH]
        have:k < listed.size:=by omega
        simp[this]
      · rw [XJ _ e]
        simp only[bG]
        rw[Array.getElem?_setIfInBounds_ne (fun h=>e h.symm)]
    unfold wpOp
    simp only[ho]
    have hmain:=hact a w K Q r fun a' w' r'=>by
      refine hK a' w' (fun k hk h j hj=> ?_) ?_
      · rw [hset] at h ⊢
        by_cases e:k=i
        · subst e
          have:=hdi j hj
          by_cases e2:j=k
          · rw[e2,JH]
          · rw[XJ _ e2]; exact this
        · rw [XJ _ e] at h
          have:=hdown k hk h j hj
          by_cases e2:j=i
          · rw[e2,JH]
          · rw[XJ _ e2]; exact this
      · obtain ⟨gh, r'⟩ := r'
        have hfun:(fun k=>(listed.setIfInBounds i true).getD k false)=VG (fun k=>listed.getD k false) i:=funext hset
        rw[hfun]
        refine ⟨gh,r'.ext (fun t=> ?_) fun q=> ?_⟩
        · have:=QiU (D:=fun k=>listed.getD k false) (t:=t) (l:=plan) (k:=0) (i:=i) (acc:=s0.tm) hit (by simpa using hDi) fun j jt hj hne _ hjn hje=>by
            have hj':j < plan.length:=(ah.1 hj).1
            have h1:=Yk (Yk hp hip) hj'
            simp only[hit,hj,aL,bS] at h1
            rcases h1.1 with h2 | h2
            · exact hne (aX h2).symm
            · cases hd1 : plan[i].d with
              | none=>rw[hje,hd1] at hjn; exact hjn rfl
              | some x=>
                rw[hje,hd1] at h2
                simp at h2
          rw[bn] at this
          exact this
        · have:=Qjl (D:=fun k=>listed.getD k false) (q:=q) (l:=plan) (k:=0) (i:=i) (acc:=s0.tab) hit (by simpa using hDi) fun j jt hj hlt hDj hm hm2=>by
            have hj':j < plan.length:=(ah.1 hj).1
            have h1:=Yk (Yk hp hip) hj'
            simp only[hit,hj,aL,bS,bM] at h1
            rcases h1.2 with (h2 | h2) | h2
            · have h3 : Nat.blt i j = true := cA hlt
              rw[h3] at h2; cases h2
            · have := hdown j hj' (by simpa using hDj) i h2
              rw[hDi] at this; cases this
            · have := aB.1 h2 q hm
              rw[Jn.2 hm2] at this
              cases this
          rw[bn] at this
          exact this
    by_cases hw:Region.wanted o (yielded ops a.tmps)=true
    · rw [if_pos hw] at hmain ⊢
      exact .inl hmain
    · rw [if_neg hw] at hmain ⊢
      exact hmain
  intro f
  induction f with
  | zero=>
    intro listed a w hs hc hdown r
    have hr:Region.ready .any ops listed=[]:=by
      refine List.eq_nil_iff_forall_not_mem.2 fun i hi=> ?_
      obtain ⟨h1,o,ho,_⟩:=mem_ready.1 hi
      have hio:i < ops.size:=(bP.1 ho).1
      have hm:i∈(List.range plan.length).filter fun i=> !(listed.getD i true):=bR.2 ⟨bY.2 (by omega),by rw[h1]; rfl⟩
      rw[bB (by omega:((List.range plan.length).filter fun i=> !(listed.getD i true)).length=0)] at hm
      cases hm
    exact ⟨hr,hnone listed a w hs hr r⟩
  | succ f ih=>
    intro listed a w hs hc hdown r
    refine ⟨fun hr=>hnone listed a w hs hr r,fun i hi=> ?_⟩
    refine step listed a w i _ hs hdown r hi fun a' w' hdown' r'=>⟨trivial,ih _ a' w' (by simpa using hs) ?_ hdown' r'⟩
    obtain ⟨h1,o,ho,_⟩:=mem_ready.1 hi
    have hio:i < ops.size:=(bP.1 ho).1
    have hlt:i < listed.size:=by omega
    have hsub:((List.range plan.length).filter fun k=> !((listed.setIfInBounds i true).getD k true))=((List.range plan.length).filter fun k=> !(listed.getD k true)).filter fun k=>decide (k≠i):=by
      rw[List.filter_filter]
      refine List.filter_congr fun k hk=> ?_
      by_cases e:k=i
      · subst e; simp[hlt]
      · simp only [bG]
        rw[Array.getElem?_setIfInBounds_ne (fun h=>e h.symm)]
        simp[e]
    have hm:i∈(List.range plan.length).filter fun k=> !(listed.getD k true):=bR.2 ⟨bY.2 (by omega),by rw[h1]; rfl⟩
    have hlen:(((List.range plan.length).filter fun k=> !(listed.getD k true)).filter fun k=>decide (k≠i)).length < ((List.range plan.length).filter fun k=> !(listed.getD k true)).length:=by
      refine Nat.lt_of_le_of_ne (cB _ _) fun heq=> ?_
      have:=List.length_filter_eq_length_iff.1 heq i hm
      simp at this
    rw[hsub]
    omega
theorem R.drew {s:St}{a:Act}{w:World}(r:R A s a w):R A s a w.drew:=by
  obtain ⟨gh,r⟩:=r
  exact ⟨gh,by
    have h:=r.step (T:=s.tab) (gh':=gh) (w':=w.drew) ⟨fun q e h=>(r.cx.en q e h).mono (fun _ _ h=>⟨h,rfl⟩) (fun g hg=>⟨hg,rfl⟩) rfl rfl fun _ _=>rfl,r.cx.dj,r.cx.nd,r.cx.no,r.cx.nl⟩ (fun q h=> .inl ⟨h,rfl,fun _=>rfl⟩) (fun g hg=>⟨hg,rfl⟩) ⟨rfl,rfl,rfl,aO _⟩ (fun _ _ _=>rfl) (fun g hg=> .inl hg) fun q hq g hg=> .inr ⟨q,hq,hg⟩
    exact h⟩
theorem QnA {id:Nat}{l:List Oper}{Q:Exit→St→Prop}(plan:List Item)(deps:List (List Nat))(hm:P.follows .mixedOrders=true)(hn:l.length=plan.length)(hB:(QbJ l.toArray deps plan.length&&QbX plan deps&&JO l.toArray plan.length)=true)
    (H:∀i o it,l[i]? =some o→plan[i]? =some it→∀s,At plan deps s0 i s→Acts A P l.toArray o s (Jk s it)) (k:Q .normal (stD plan s0 fun _=>true)):AC A P (.region id l.toArray true) Q s0:=fun a w r=>by
  simp only[aL] at hB
  refine wp_region_held (S:=fun _=>True) hm (Qgi (s0:=s0) (by simpa using hn) hB.1.1 hB.1.2 hB.2 (fun i o it ho hit=>H i o it (by simpa using ho) hit) (fun a w r=>⟨_,k,r⟩) _ _ a _ (by simpa using hn) ?_ ?_ ?_)
  · refine bw (cB _ _) ?_
    simp[hn]
  · intro j hj h
    simp[bG,Array.getElem?_replicate] at h
    split at h <;> simp at h
  · have r2 := r.drew
    obtain ⟨gh,r2⟩:=r2
    have e:∀j,(Array.replicate l.toArray.size false).getD j false=false:=fun j=>by
      simp only[bG,Array.getElem?_replicate]
      split <;> rfl
    refine ⟨gh,r2.ext (fun t=> ?_) fun q=> ?_⟩
    · show lk (pTm plan _ 0 s0.tm) t = lk s0.tm t
      have:∀(l:List Item) (k:Nat) (acc:List (Nat×PV)) (D:Nat→Bool),(∀j,D j=false)→pTm l D k acc=acc:=by
        intro l
        induction l with
        | nil=>intro k acc D _; rfl
        | cons x l ih=>intro k acc D hD; show pTm l D (k+1) _=acc; rw[hD k]; exact ih _ _ _ hD
      rw[this _ _ _ _ e]
    · show (pTb plan _ 0 s0.tab).ent q = s0.tab.ent q
      have:∀(l:List Item) (k:Nat) (acc:Tab) (D:Nat→Bool),(∀j,D j=false)→pTb l D k acc=acc:=by
        intro l
        induction l with
        | nil=>intro k acc D _; rfl
        | cons x l ih=>intro k acc D hD; show pTb l D (k+1) _=acc; rw[hD k]; exact ih _ _ _ hD
      rw[this _ _ _ _ e]
end
end Go.Proofs.YtfkmmpfdncopdaaGreat
namespace Go.Proofs.YtfkmmpfdncopdaaGreat
open Go.RowKit
section
variable {A:Amb}{P:Program}{s:St}{x y z:Operand}{d:Nat}{T T' ty:TypeId}{pos:String}{af:Array Edge}{g:Option (Nat×Bool)}
theorem Qcb {c:Bool×List LV}(hx:Evl A s x (dB true))(hy:Ev A s y c)(hn:Nat.blt d A.n=true):Does A P ⟨some d, .pick x y z,ty,pos,af,g⟩ s (s.put d (.cm c.1 c.2)):=
  Qg rfl hn fun gh a w r=>⟨a.eval y,by
    simp only[execOp,hx.b r,asBool,aw,b5,aH,if_true],hy gh a w r⟩
theorem Qcc {c:Bool×List LV}(hx:Evl A s x (dB false))(hy:Ev A s z c)(hn:Nat.blt d A.n=true):Does A P ⟨some d, .pick x y z,ty,pos,af,g⟩ s (s.put d (.cm c.1 c.2)):=
  Qg rfl hn fun gh a w r=>⟨a.eval z,by
    simp only[execOp,hx.b r,asBool,aw,b5,aH,if_false,bQ],hy gh a w r⟩
def Qd5 (offs:List (Nat×Nat)):List LV→List (Nat×List LV)→Option (List LV)
  | cs,[]=>some cs
  | cs,(i,ls) :: rest=>match offs[i]? with
    | some (off,sz)=>match Nat.beq ls.length sz&&Nat.ble (off+sz) cs.length with
      | true=>Qd5 offs (splice cs off ls) rest
      | false=>none
    | none=>none
def bld (P:Program)(T:TypeId)(offs:List (Nat×Nat))(t:Ty):Prop:=
  ∃fs,P.underlying T=some (.struct fs)∧(∀w,(fs.mapM fun (f:Field)=>do pure (f.offset,← sizeOf f.type)).run P w= .ok offs.toArray w)∧zer P T=some (.agg t.zeros.toArray)
def plB (P:Program):List Field→List (Nat×Nat)→Bool
  | [],[]=>true
  | f :: fs,(o,s) :: ps=>Nat.beq f.offset o&&(match P.info? f.type with
    | some i=>Nat.beq i.size s
    | none=>false)&&plB P fs ps
  | _,_=>false
theorem K2 {P:Program}{w:World}:∀{fs:List Field} {offs:List (Nat×Nat)},plB P fs offs=true→(fs.mapM fun (f:Field)=>(do pure (f.offset,← sizeOf f.type):Sem (Nat×Nat))).run P w= .ok offs w
  | [],[],_=>by simp
  | [],_ :: _,h=>by cases h
  | _ :: _,[],h=>by cases h
  | f :: fs,(o,s) :: ps,h=>by
    simp only[plB,aL] at h
    have h1:=aX h.1.1
    have ih:=K2 (P:=P) (w:=w) h.2
    have h2:=h.1.2
    cases hi:P.info? f.type with
    | none=>rw[hi] at h2; cases h2
    | some i=>
      rw[hi] at h2
      have h3:=aX h2
      subst h1; subst h3
      simp only[List.mapM_cons,aw,sizeOf,typeInfo,hi,b5,aH,run_program]
      simp only[sizeOf,typeInfo] at ih
      rw[ih]
      simp
theorem Xc {P:Program}{T:TypeId}{fs:List Field}{offs:List (Nat×Nat)}{t:Ty}(hu:P.underlying T=some (.struct fs.toArray))(hp:plB P fs offs=true)(hz:zer P T=some (.agg t.zeros.toArray)):bld P T offs t:=
  ⟨_,hu,fun w=>by
    rw[List.mapM_toArray]
    have:=K2 (P:=P) (w:=w) hp
    simp only[map_eq_pure_bind,aw,this,aH,b5],hz⟩
theorem JM {al:Nat→Prop}{gh:Gh}{w:World}{offs:List (Nat×Nat)}:∀{ps:List (Nat×List LV)} {vs:List Value} {cs ls:List LV} {cur:Array Value},Qd5 offs cs ps=some ls→vs.length=ps.length→
    (∀(i:Nat) (p:Nat×List LV) (v:Value),ps[i]? =some p→vs[i]? =some v→∃us,v.cells=us.toArray∧LVs al gh w p.2 us)→LVs al gh w cs cur.toList→
    ∃cur',Instr.fill (offs.toArray[·]?) cur ((ps.map (·.1)).zip vs)=some cur'∧LVs al gh w ls cur'.toList
  | [],vs,cs,ls,cur,h,hl,_,hc=>by
    have:vs=[]:=bB (by simpa using hl)
    subst this
    cases h
    exact ⟨cur,rfl,hc⟩
  | (i,l) :: ps,[],_,_,_,_,hl,_,_=>by simp at hl
  | (i,l) :: ps,v :: vs,cs,ls,cur,h,hl,hv,hc=>by
    obtain ⟨us,h1,h2⟩:=hv 0 (i,l) v rfl rfl
    unfold Qd5 at h
    cases ho:offs[i]? with
    | none=>rw[ho] at h; cases h
    | some p=>
      obtain ⟨off,sz⟩:=p
      rw[ho] at h
      simp only at h
      cases hb:Nat.beq l.length sz&&Nat.ble (off+sz) cs.length with
      | false=>rw[hb] at h; cases h
      | true=>
        rw[hb] at h
        simp only[aL] at hb
        have e1:=aX hb.1
        have e2:=aG hb.2
        have h2':LVs al gh w l us:=h2
        have e3:=h2'.len
        have e4:=hc.len
        have hsp:=hc.splice h2' (off:=off)
        have hf:=Qdo us off cur 0 (by simp at e4; omega)
        generalize hF:List.foldl (fun (cs:Array Value) (p:Value×Nat)=>cs.setIfInBounds (off+p.2) p.1) cur (us.zipIdx 0)=F at hf
        have hF2:F.toList=cur.toList.take off++us++cur.toList.drop (off+us.length):=by simpa using hf
        rw[← hF2] at hsp
        obtain ⟨cur',k1,k2⟩:=JM (ps:=ps) (vs:=vs) h (by simpa using hl) (fun j p v hp hv'=>hv (j+1) p v (by simpa using hp) (by simpa using hv')) hsp
        refine ⟨cur', ?_,k2⟩
        have hcs:v.cells.size=sz:=by rw[h1]; simp; omega
        have hfit:off+v.cells.size≤cur.size:=by rw[hcs]; simp at e4; omega
        show (match offs.toArray[i]? with
          | none=>none
          | some (off,size)=>if (decide (v.cells.size≠size)||decide (off+v.cells.size > cur.size))=true then none else Instr.fill _ (v.cells.zipIdx.foldl (fun cs (x:Value×Nat)=>match x with | (c,j)=>cs.setIfInBounds (off+j) c) cur) _)=some cur'
        rw[show offs.toArray[i]? =some (off,sz) by simpa using ho]
        have hcond:(decide (v.cells.size≠sz)||decide (off+v.cells.size > cur.size))=false:=by
          simp only[cV,decide_eq_false_iff_not,ne_eq,Decidable.not_not,Nat.not_lt]
          exact ⟨hcs,by omega⟩
        have hF3:v.cells.zipIdx.foldl (fun cs (x:Value×Nat)=>match x with | (c,j)=>cs.setIfInBounds (off+j) c) cur=F:=by
          rw[← hF,← Array.foldl_toList,Array.toList_zipIdx,h1]
        simp only[hcond,hF3]
        exact k1
theorem Qp {t:Ty}{offs:List (Nat×Nat)}{parts:Array (Nat×Operand)}{css:List (Bool×List LV)}{ls:List LV}(hb:bld P T offs t)(hv:EvL A s (parts.toList.map (·.2)) css)(hok:∀c∈css,Q6 s.tab c.2=true)
    (hf:Qd5 offs t.zlv ((parts.toList.map (·.1)).zip (css.map (·.2)))=some ls) (hn:Nat.blt d A.n=true):Does A P ⟨some d, .build T parts,ty,pos,af,g⟩ s (s.put d (ag ls)):=
  Qg rfl hn fun gh a w r=>by
    obtain ⟨fs,h1,h2,h3⟩:=hb
    have hvs:=hv.cms r
    have hlen:=hvs.len
    generalize hV:(parts.toList.map (·.2)).map a.eval=vs at*
    have hpl:parts.toList.length=vs.length:=by rw[← hV]; simp
    have hcells:∀(cs:List (Bool×List LV)) (vs:List Value),CmsR s.tab.al gh w cs vs→(∀c∈cs,Q6 s.tab c.2=true)→∀(i:Nat) (c:Bool×List LV) (v:Value),cs[i]? =some c→vs[i]? =some v→∃us,v.cells=us.toArray∧LVs s.tab.al gh w c.2 us:=by
      intro cs
      induction cs with
      | nil=>intro vs _ _ i c v h; simp at h
      | cons c cs ih=>
        rintro vs ⟨v,vs',rfl,k1,k2⟩ hok i c' v' hc hv'
        cases i with
        | zero=>
          simp at hc hv'
          subst hc; subst hv'
          have hc:=hok c (az ..)
          obtain ⟨b,ls⟩:=c
          exact CmR.cells k1 fun hb=>by
            subst hb
            obtain ⟨l,rfl,q1⟩:=k1
            simp only[Q6,cU] at hc
            obtain ⟨h3,h4⟩:=Wc hc
            exact q1.oneCell h4 h3 fun q ⟨e,he⟩=>(r.cx.en q e he).oneCell
        | succ i=>exact ih vs' k2 (fun c hc=>hok c (ax _ hc)) i c' v' (by simpa using hc) (by simpa using hv')
    have hzl:((parts.toList.map (·.1)).zip (css.map (·.2))).length=vs.length:=by rw[List.length_zip,aP,aP]; omega
    obtain ⟨cur',k1,k2⟩:=JM (al:=s.tab.al) (gh:=gh) (w:=w) (cur:=t.zeros.toArray) hf hzl.symm (fun i p v hp hv'=>by
      have hi:=List.getElem?_zip_eq_some.1 hp
      have h5:=hi.2
      rw[bq] at h5
      obtain ⟨c',h6,h7⟩:=cw.1 h5
      rw[← h7]
      exact hcells css vs hvs hok i c' v h6 hv') (by simpa using VI s.tab.al gh w t)
    refine ⟨.agg cur', ?_,cur'.toList,by simp,k2⟩
    have hz:(((parts.toList.map (·.1)).zip (css.map (·.2))).map (·.1)).zip vs=(parts.map fun p=>(p.1,a.eval p.2)).toList:=by
      rw[List.map_fst_zip (by rw[aP,aP]; omega),cW,← hV,dn]
      generalize parts.toList=pl
      induction pl with
      | nil=>rfl
      | cons p ps ih=>simp[ih]
    rw[hz] at k1
    simp only[execOp,Instr.build,aw,XT h3,aH,run_underlying h1,h2,Value.cells]
    rw[k1]
    simp
end
def ActsL (A:Amb)(P:Program)(ops:Array Oper)(plan:List Item)(deps:List (List Nat))(s0:St):List Oper→List Item→Nat→Prop
  | o :: l,it :: p,i=>(∀s,At plan deps s0 i s→Acts A P ops o s (Jk s it))∧ActsL A P ops plan deps s0 l p (i+1)
  | [],_,_=>True
  | _ :: _,[],_=>True
theorem ActsL.get {A:Amb}{P:Program}{ops:Array Oper}{plan:List Item}{deps:List (List Nat)}{s0:St}:∀{l:List Oper} {p:List Item} {k:Nat},ActsL A P ops plan deps s0 l p k→∀i o it,l[i]? =some o→p[i]? =some it→∀s,At plan deps s0 (k+i) s→Acts A P ops o s (Jk s it)
  | [],_,_,_,i,o,it,h,_=>by simp at h
  | _ :: _,[],_,_,i,o,it,_,h=>by simp at h
  | o' :: l,it' :: p,k,⟨h1,h2⟩,0,o,it,ho,hi=>by
    simp at ho hi
    subst ho; subst hi
    exact h1
  | o' :: l,it' :: p,k,⟨h1,h2⟩,i+1,o,it,ho,hi=>by
    have:=ActsL.get h2 i o it (by simpa using ho) (by simpa using hi)
    rwa [show k+1+i=k+(i+1) by omega] at this
theorem QbM {A:Amb}{P:Program}{s0:St}{id:Nat}{l:List Oper}{Q:Exit→St→Prop}(plan:List Item)(deps:List (List Nat))(hm:P.follows .mixedOrders=true)(hn:l.length=plan.length)(hB:(QbJ l.toArray deps plan.length&&QbX plan deps&&JO l.toArray plan.length)=true)
    (H:ActsL A P l.toArray plan deps s0 l plan 0) (k:Q .normal (stD plan s0 fun _=>true)):AC A P (.region id l.toArray true) Q s0:=
  QnA plan deps hm hn hB (fun i o it ho hi s hs=>ActsL.get H i o it ho hi s (by rwa [bn])) k
theorem Ql3 {A:Amb}{s:St}{x:Operand}{E:TypeId}{e:Ty}{l:List e.Den}(h:Evl A s x (.dat (.sl E e) l)):∀gh a w,Rg A s gh a w→l.length≤9223372036854775807:=fun gh a w r=>by
  have:=QoT h gh a w r
  unfold maxLen at this; omega
theorem Qko {A:Amb}{s:St}{x:Operand}{b:ByteArray}(h:Evl A s x (dS b)):∀gh a w,Rg A s gh a w→b.size≤9223372036854775807:=fun gh a w r=>by
  have:=QlE h gh a w r
  unfold maxLen at this; omega
theorem QlY {A:Amb}{P:Program}{s:St}{Q:Exit→St→Prop}{c:Operand}{x y:Code}(hc:Evl A s c (dB true))(h:AC A P x Q s):AC A P (.cond c x y) Q s:=J2 hc (fun _=>h) fun h=>by cases h
theorem Qme {A:Amb}{P:Program}{s:St}{Q:Exit→St→Prop}{c:Operand}{x y:Code}(hc:Evl A s c (dB false))(h:AC A P y Q s):AC A P (.cond c x y) Q s:=J2 hc (fun h=>by cases h) fun _=>h
@[reducible] def K4 (O:PV→Tab→Prop) (k:Nat):PV→Tab→Prop:=fun p T0=>∃pv T' ρ,p=pv.ren (rn ρ)∧HasE ⟨[],T0⟩ ρ T'∧XY (T'.map fun x=>rn ρ x.1)=true∧idB ρ k=true∧O pv T'
theorem FC.ren {P:Program}{f:FuncId}{args:List (Bool×List LV)}{T:Tab}{k:Nat}{O:PV→Tab→Prop}(h:FC P f args T k (K4 O k)):FC P f args T k O:=fun gh w vs cx ha=>
  Calls.mono (h gh w vs cx ha) fun e w' he=>by
    obtain ⟨v,pv0,T0,gh',h1,⟨pv,T',ρ,rfl,hE,hi,hid,hO⟩,cx',hp,fr,hk⟩:=he
    have hal:∀q,T'.al q→T0.al (rn ρ q):=fun q ⟨e,h⟩=>⟨_,hE.get h⟩
    have hinj:∀q q',T'.al q→T'.al q'→rn ρ q=rn ρ q'→q=q':=fun q q' h1 h2 h=>Un hi h1 h2 h
    refine ⟨v,pv,T',gh'.via (rn ρ),h1,hO,⟨fun q e h=> ?_,fun q q' h1 h2 hne=>cx'.dj _ _ (hal q h1) (hal q' h2) fun h=>hne (hinj q q' h1 h2 h),fun q h=>cx'.nd _ (hal q h),fun q h=>cx'.no _ (hal q h),cx'.nl⟩,
      (PVR.ren.1 hp).mono (fun q _ h'=>⟨hal q h',rfl⟩) (fun g hg=>⟨hg,rfl⟩),⟨fr.gw,fr.kp,fr.nn,fun q h=>fr.ox _ (hal q h)⟩,fun q hq h=> ?_⟩
    · exact (EntR.ren.1 (cx'.en _ _ (hE.get h))).mono (fun r' _ h'=>⟨hal r' h',rfl⟩) (fun g hg=>⟨hg,rfl⟩) rfl rfl fun _ _=>rfl
    · have hq' := Qfw hid q hq
      have:=hk (rn ρ q) (by rw[hq']; exact hq) (hal q h)
      rw[hq'] at this
      show gh'.h (rn ρ q)=_
      rw[hq']
      exact this
section
variable {A:Amb}{P:Program}{fn:Func}{s:St}{O:PV→Tab→Prop}{k:Nat}
theorem QaQ (pv:PV)(T':Tab)(ρ:List (Nat×Nat))(h1:Res A P fn s (pv.ren (rn ρ)))(h2:HasE ⟨[],s.tab⟩ ρ T')(h3:XY (T'.map fun x=>rn ρ x.1)=true)(h4:idB ρ k=true)(h5:O pv T'):fin A P fn (K4 O k) .ret s:=
  ⟨_,h1,pv,T',ρ,rfl,h2,h3,h4,h5⟩
theorem QiH:∀k,idB [] k=true
  | 0=>rfl
  | k+1=>by simp[idB,rn,lk,QiH k]
theorem VA {pv pv0:PV}(h:Res A P fn s pv0)(e:pv0=pv)(ht:pv.tags=[]):fin A P fn (K4 (QH pv) k) .ret s:=by
  subst e
  exact QaQ pv0 [] [] (by rw[PV.ren_id ht]; exact h) trivial rfl (QiH k) ⟨rfl,rfl⟩
theorem QnD {q:Nat}{E:TypeId}{e:Ty}{xs zs:List e.Den}(h:Res A P fn s (lf (.ref q)))(he:s.tab.ent q=some (.arr E e xs))(hx:xs=zs):fin A P fn (K4 (WC E e zs) 0) .ret s:=by
  subst hx
  refine QaQ (lf (.ref 0)) [(0,some (.arr E e xs))] [(0,q)] h ⟨?_,trivial⟩ rfl rfl ⟨rfl,rfl⟩
  exact he
theorem QK {a t q n:Nat}{E:TypeId}{cs:List LV}(h:lk s.tm a=some (lf (.ptr q 0)))(he:s.tab.ent q=some (.box E cs))(hT:tsh P t=some (true,n))(hl:cs.length=n):Rs A P s (.cell a t) (true,cs):=fun gh ac w r=>by
  obtain ⟨g,h1,h2⟩:=Qa h gh ac w r ⟨_,he⟩
  obtain ⟨g',cur,h3,h4,h5,h6⟩:=r.cx.en q _ he
  rw[h1] at h3
  cases h3
  refine ⟨.agg cur, ?_,cur.toList,by simp,h6⟩
  have hr:=Y9 (w:=w) hT g 0 cur.toList (by rw[h6.len]; exact hl) fun j u hj=>by
    simp only[World.cell?,h5]
    simpa using hj
  have h2:ac.tmps.getD a undef= .pointer (some ⟨g,0,none⟩):=h2
  simp only[QoG,h2,asAddr,aw,b5,aH,hr]
theorem QmN {a t q n:Nat}{E:TypeId}{l:LV}(h:lk s.tm a=some (lf (.ptr q 0)))(he:s.tab.ent q=some (.box E [l]))(hT:tsh P t=some (false,n)):Rs A P s (.cell a t) (false,[l]):=fun gh ac w r=>by
  obtain ⟨g,h1,h2⟩:=Qa h gh ac w r ⟨_,he⟩
  obtain ⟨g',cur,h3,h4,h5,h6⟩:=r.cx.en q _ he
  rw[h1] at h3
  cases h3
  obtain ⟨v,vs,h7,h8,h9⟩:=h6
  have hc:w.cell? ⟨g,0,none⟩=some v:=by
    simp only[World.cell?,h5]
    have:cur.toList[0]? =some v:=by rw[h7]; rfl
    simpa using this
  have h2:ac.tmps.getD a undef= .pointer (some ⟨g,0,none⟩):=h2
  refine ⟨v, ?_,l,rfl,h8⟩
  simp only[QoG,h2,asAddr,aw,b5,aH,Z5 hT _ v hc]
end
theorem Q0 {A:Amb}{I:Nat→St→Prop}{m:Nat}{s1:St}{m':Nat}{s2:St}(h3:I m' s2)(h1:m' < m)(h2:Wk A s1 s2):∃m' s2,m' < m∧Wk A s1 s2∧I m' s2:=⟨m',s2,h1,h2,h3⟩
theorem Qn {E:TypeId}{e:Ty}{xs ys:List e.Den}(h:xs=ys):some (Ent.arr E e xs)=some (Ent.arr E e ys):=congrArg (fun z=>some (Ent.arr E e z)) h
theorem Qsc {E:TypeId}{xs ys:List UInt8}(h:xs=ys):some (Ent.bys E xs)=some (Ent.bys E ys):=congrArg (fun z=>some (Ent.bys E z)) h
theorem nlr {a b:Nat}(h:Nat.ble a b=true):a≤b:=aG h
theorem QbB {A:Amb}{P:Program}{Q:Exit→St→Prop}{s:St}{x0 z:Code}(I:St→Prop)(h:∀s,I s→AC A P z Q s)(k:(∀s,I s→AC A P z Q s)→AC A P (.seq x0 z) Q s):AC A P (.seq x0 z) Q s:=k h
theorem Qnv {A:Amb}{P:Program}{Q:Exit→St→Prop}{s:St}{x0 x1 x2 z:Code}(I:St→Prop)(h:∀s,I s→AC A P z Q s)(k:(∀s,I s→AC A P z Q s)→AC A P (.seq x0 (.seq x1 (.seq x2 z))) Q s):AC A P (.seq x0 (.seq x1 (.seq x2 z))) Q s:=k h
theorem QcV {A:Amb}{P:Program}{c:Code}{Q:Exit→St→Prop}{s s':St}(h:AC A P c Q s')(k:Wk A s s'):AC A P c Q s:=AC.wk k h
theorem QS {p:Prop}[Decidable p](h:(!decide p)=true):¬p:=by simpa using h
theorem QA {p:Prop}[Decidable p](h:(!decide p)=false):p:=by simpa using h
theorem QQ {α:Type _}{l:List α}{k:Nat}{x:α}(h:l[k]? =some x):l.take (k+1)=l.take k++[x]:=by
  obtain ⟨h1,h2⟩:=ah.1 h
  rw[bN h1,h2]
theorem ZK {α:Type _}{l:List α}{k:Nat}(h:l.length≤k):l.take k=l:=aU h
theorem QeY {P:Program}{f:FuncId}{args:List (Bool×List LV)}{b:Bool}(h:∀(gh:Gh) (w:World) (vs:List Value),CmsR (Tab.al []) gh w args vs→Calls P f vs.toArray w (RetB (b=true) w)):FC P f args [] 0 (QH (lf (dB b))):=fun gh w vs cx ha=>
  Calls.mono (h gh w vs ha) fun e w' he=>by
    obtain ⟨b',rfl,h1,h2⟩:=he
    have hb:b'=b:=by cases b' <;> cases b <;> simp_all
    subst hb
    exact ⟨_,_,[],gh,rfl,⟨rfl,rfl⟩,Wh ZJ gh w' fun g hg=>bh (cx.nl g hg) h2.size,⟨_,rfl,ZC⟩,⟨h2.grw,fun g hg _=>Below.block h2 g hg,fun g hg=> .inl hg,fun q hq=>absurd hq (ZJ q)⟩,fun q hq=>absurd hq (by omega)⟩
theorem CmsR.agg1 {al:Nat→Prop}{gh:Gh}{w:World}{t:Ty}{x:t.Den}{vs:List Value}(h:CmsR al gh w [(true,leaves t x)] vs):∃us,vs=[.agg us.toArray]∧Rep t w us x:=by
  obtain ⟨v,vs',rfl,⟨us,rfl,h1⟩,h2⟩:=h
  rw[show vs'=[] from h2]
  exact ⟨us,rfl,(LVs.rd h1).rep⟩
theorem CmsR.leaf1 {al:Nat→Prop}{gh:Gh}{w:World}{t:Ty}{x:t.Den}{vs:List Value}(h:CmsR al gh w [(false,[.dat t x])] vs):∃v,vs=[v]∧Rep t w [v] x:=by
  obtain ⟨v,vs',rfl,⟨l,hl,h1⟩,h2⟩:=h
  simp only[aI,and_true] at hl
  subst hl
  rw[show vs'=[] from h2]
  exact ⟨v,rfl,h1.rep⟩
end Go.Proofs.YtfkmmpfdncopdaaGreat
