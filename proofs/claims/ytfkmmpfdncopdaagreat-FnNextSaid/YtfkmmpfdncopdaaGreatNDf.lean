/- The traces of a state graph: both ways to them. Plain law. -/
import Derived.Test.YtfkmmpfdncopdaaGreatNEb
import Derived.Test.YtfkmmpfdncopdaaGreatNWj
import Derived.Test.YtfkmmpfdncopdaaGreatNAt
import Derived.Test.YtfkmmpfdncopdaaGreatNWt
import Derived.Test.YtfkmmpfdncopdaaGreatNUa
import Derived.Test.YtfkmmpfdncopdaaGreatNWx
import Derived.Test.YtfkmmpfdncopdaaGreatNVa
set_option linter.unusedSimpArgs false
set_option linter.unusedVariables false
set_option linter.unusedSectionVars false
namespace Go.Proofs.YtfkmmpfdncopdaaGreat
open Go.RowKit
set_option maxRecDepth 100000
set_option maxHeartbeats 4000000
section
variable {c:DSg}{h:Int}{n m:Nat}{s t:ByteArray}{u v:Int}{K L M A D l1 l2:DLv}{a:DAr}{S T_:List Int}{q p:ByteArray×List Int}
theorem Qnq (hs:SgOk c)(ha:a∈c.2.2):0≤a.2.2.2∧a.2.2.2 < (c.2.1.length:Int):=by
  have:=hs.arcs a ha
  obtain ⟨_,h2,_⟩:=this
  omega
theorem Ql0 (hs:SgOk c)(hS:Srt S)(hr:∀u∈S,0≤u∧u < (c.2.1.length:Int)):∀u,u∈stl c h S↔Ch c.2.2 h (fun v=>v∈S) u:=Qg8 hS (fun _ ha=>Qnq hs ha) hr
theorem QrR (hs:SgOk c)(k:Vs c h L s v):0≤v∧v < (c.2.1.length:Int):=by
  obtain ⟨_,_,a,h1,_,_,_,rfl⟩:=k
  exact Qnq hs h1
theorem Qd8 {L:List DTx}{p:ByteArray×List Int}(k:p∈unT L):∃x∈L,p=(x.1,x.2.1):=by
  obtain ⟨x,hx,e⟩:=ba.1 k
  exact ⟨x,hx,e.symm⟩
theorem QiZ (hs:SgOk c):∀n,(Lev c h n (unT (KZ c h n))∧(∀x∈KZ c h n,x.2.2=(n:Int)))∧∀x∈KZ c h n,Srt x.2.1:=fun n=>by
  have h1:=hs.some_
  induction n with
  | zero=>
    have h0:∀u,u∈stl c h [0]↔Ch c.2.2 h (fun v=>v=0) u:=fun u=>(Ql0 hs (cG ..) (fun u hu=>by rw[aC] at hu; omega) u).trans (Ch.congr fun v=>aC)
    refine ⟨⟨⟨cG ..,fun p hp=> ?_,fun t u hu=>⟨_,aC.2 rfl,(QaP.1 hu).1.symm⟩⟩,fun x hx=>by rw[KZ,aC] at hx; subst hx; rfl⟩,fun x hx=>by rw[KZ,aC] at hx; subst hx; exact JR (cG ..)⟩
    obtain ⟨x,hx,rfl⟩:=Qd8 hp
    rw[KZ,aC] at hx
    subst hx
    exact ⟨⟨0,(h0 0).2 (.base rfl)⟩,fun u=>(h0 u).trans ⟨fun k=>QaP.2 ⟨rfl,k⟩,fun k=>(QaP.1 k).2⟩⟩
  | succ n ih=>
    obtain ⟨⟨g,hm⟩,hsr⟩:=ih
    have o:=QlW (c:=c) (h:=h) (i:=(n:Int)+1) (L:=KZ c h n) fun x hx=>by rw[hm x hx]
    have hcl:∀y∈QnC c h (KZ c h n) [],∀u,u∈stl c h y.2.1↔Ch c.2.2 h (fun v=>Vs c h (unT (KZ c h n)) y.1 v) u:=fun y hy u=>
      (Ql0 hs (o.srt y hy) (fun v hv=>QrR hs ((o.mem y hy v).1 hv)) u).trans (Ch.congr fun v=>o.mem y hy v)
    refine ⟨⟨g.next ?_ (fun p hp=> ?_) (fun s v hv=> ?_),fun x hx=> ?_⟩,fun x hx=> ?_⟩
    · unfold unT KZ Qsi
      rw[dn,List.pairwise_map]
      exact o.nod
    · obtain ⟨x, hx, rfl⟩ := Qd8 hp
      obtain ⟨y,hy,rfl⟩:=ba.1 hx
      exact ⟨o.wit y hy,hcl y hy⟩
    · obtain ⟨y, hy, e⟩ := o.all s v hv
      exact ⟨_,ba.2 ⟨Qp8 c h y,ba.2 ⟨y,hy,rfl⟩,rfl⟩,e⟩
    · obtain ⟨y, hy, rfl⟩ := ba.1 hx
      rw[show (Qp8 c h y).2.2=y.2.2 from rfl,o.many y hy]; omega
    · obtain ⟨y, hy, rfl⟩ := ba.1 hx
      exact JR (o.srt y hy)
def QjZ (L:List DTx)(out:List ByteArray):List ByteArray:=L.foldl (fun o x=>QN ltB x.1 o) out
def txL (c:DSg)(h:Int):Nat→List ByteArray
  | 0=>QjZ (KZ c h 0) []
  | n+1=>QjZ (KZ c h (n+1)) (txL c h n)
theorem Qbi:∀{L:List DTx} {out:List ByteArray},t∈QjZ L out↔t∈out∨∃x∈L,x.1=t
  | [],out=>by simp[QjZ]
  | x :: l,out=>by
    show t∈QjZ l (QN ltB x.1 out)↔_
    rw[Qbi,ZO]
    simp only[aE,exists_eq_or_imp]
    constructor
    · rintro ((rfl | h1) | h1)
      · exact .inr (.inl rfl)
      · exact .inl h1
      · exact .inr (.inr h1)
    · rintro (h1 | rfl | h1)
      · exact .inl (.inr h1)
      · exact .inl (.inl rfl)
      · exact .inr h1
theorem Qbb (ho:TO ltB):∀{L:List DTx} {out:List ByteArray},out.Pairwise (fun x y=>ltB x y=true)→(QjZ L out).Pairwise (fun x y=>ltB x y=true)
  | [],_,k=>k
  | x :: l,out,k=>Qbb ho (L:=l) (UM ho k)
theorem QjA (ho:TO ltB):∀n,(txL c h n).Pairwise (fun x y=>ltB x y=true)
  | 0=>Qbb ho bX
  | n+1=>Qbb ho (QjA ho n)
theorem QmD (g:Lev c h n (unT (KZ c h n))):(∃x∈KZ c h n,x.1=t)↔∃u,Tr c h n t u:=by
  constructor
  · rintro ⟨x, hx, rfl⟩
    have h1:=g.mem _ (ba.2 ⟨x,hx,rfl⟩)
    exact h1.1.imp fun u hu=>(h1.2 u).1 hu
  · rintro ⟨u, hu⟩
    obtain ⟨p,hp,rfl⟩:=g.all t u hu
    obtain ⟨x,hx,rfl⟩:=Qd8 hp
    exact ⟨x,hx,rfl⟩
theorem Qei (hs:SgOk c):∀n,t∈txL c h n↔∃m,m≤n∧∃u,Tr c h m t u
  | 0=>by
    rw[txL,Qbi,QmD (QiZ hs 0).1.1]
    exact ⟨fun k=>⟨0,aO _,k.resolve_left (by simp)⟩,fun ⟨m,hm,k⟩=> .inr (by rwa [Nat.le_zero.1 hm] at k)⟩
  | n+1=>by
    rw[txL,Qbi,QmD (QiZ hs (n+1)).1.1,Qei hs n]
    constructor
    · rintro (⟨m, h1, h2⟩ | h1)
      · exact ⟨m,by omega,h2⟩
      · exact ⟨n+1,aO _,h1⟩
    · rintro ⟨m, h1, h2⟩
      by_cases e:m=n+1
      · subst e; exact .inr h2
      · exact .inl ⟨m,by omega,h2⟩
theorem Qqk {l:List ByteArray}(ho:TO ltB)(k:l.Pairwise (fun x y=>ltB x y=true)):l.Nodup:=k.imp fun h e=>by subst e; exact absurd ((ho.irr _).symm.trans h) (by decide)
@[reducible] def QtD (c:DSg) (h m:Int):Prop:=SgOk c∧(-1≤h∧h≤(c.1.length:Int) - 1)∧(0≤m∧m≤6)
def trV (c:DSg)[Decidable (SgOk c)](h m:Int):List ByteArray×Bool:=if QtD c h m∧(txL c h m.toNat).length≤400 then (txL c h m.toNat,true) else ([],false)
theorem Qri:inv h a=false↔¬a.2.1= -1∧¬a.2.1=h:=by simp[inv]
theorem QsB (hs:SgOk c)(ha:a∈c.2.2)(hi:inv h a=false):∃N x,tl (wdA c a)=N++[x]∧QkR x=true∧∀b∈N,QkR b=false:=by
  have h1:=(hs.arcs a ha).2.2.1
  have h2:0≤a.2.1∧a.2.1≤(c.1.length:Int) - 1:=h1.resolve_right fun k=>(Qri.1 hi).1 k.1
  obtain ⟨g,hg⟩:∃g,c.1[a.2.1.toNat]? =some g:=⟨_,aa (by omega)⟩
  have h3:=(hs.sigs.1 a.2.1.toNat (by omega) g hg).1
  refine ⟨tl g.1,if a.2.2.1=true then 43 else 45, ?_,by split <;> rfl,fun b hb=> ?_⟩
  · unfold wdA sgB
    rw[Qld,hg]
    split <;> rfl
  · obtain ⟨k, hk⟩ := aM.1 hb
    have hk2:k < g.1.size:=by have:=(ah.1 hk).1; simpa [tl] using this
    have h4:g.1[k]=b:=by
      have:=(ah.1 hk).2
      simp only[tl,Array.getElem_toList] at this
      exact this
    have h5:=h3.1 k hk2
    rw[h4] at h5
    unfold QkR
    simp only[cV,beq_eq_false_iff_ne,ne_eq]
    unfold ZZ at h5
    refine ⟨fun e=> ?_,fun e=> ?_⟩ <;> subst e <;> revert h5 <;> simp
def cnS (l:List UInt8):Nat:=(l.filter QkR).length
theorem QlN (hs:SgOk c)(k:Tr c h n t u):Qs5 (tl t)∧cnS (tl t)=n:=by
  induction k with
  | zero=>exact ⟨.inl rfl,rfl⟩
  | still _ _ _ ih=>exact ih
  | word _ h2 h3 ih=>
    obtain ⟨N,x,e,hx,hN⟩:=QsB hs h2 h3
    rw[Qld,e]
    refine ⟨.inr ⟨_,x,(aZ ..).symm,hx⟩, ?_⟩
    have e2:N.filter QkR=[]:=List.filter_eq_nil_iff.2 fun b hb=>by rw[hN b hb]; decide
    have:=ih.2
    unfold cnS at this ⊢
    rw[bH,bH,e2,cP,ai,this,dd,hx]; rfl
theorem Qp4 {u':Int}(hs:SgOk c)(k:Tr c h n t u)(k':Tr c h m t u'):n=m:=(QlN hs k).2.symm.trans (QlN hs k').2
def afS (c:DSg)(S:List Int)(h:Int)(A:DLv)(a:DAr):DLv:=if a.1∈S∧inv h a=false then Ui .str A (wdA c a) (((X3 .str A (wdA c a)).getD [])++[a.2.2.2]) else A
def afV (c:DSg)(S:List Int)(h:Int):DLv:=c.2.2.foldl (afS c S h) []
structure AfI (c:DSg) (h:Int) (S:List Int) (rs:List DAr) (A:DLv):Prop where
  nod:A.Pairwise fun p q=>p.1≠q.1
  mem:∀p∈A,(∃v,v∈p.2)∧∀v,v∈p.2↔∃a∈rs,inv h a=false∧a.1∈S∧wdA c a=p.1∧v=a.2.2.2
  all:∀a∈rs,inv h a=false→a.1∈S→∃p∈A,p.1=wdA c a
theorem Qpu {k:Ty}{V:Type}{m:List (k.Den×V)}{x:k.Den}(hd:m.Pairwise fun p q=>p.1≠q.1):(∃v,(x,v)∈m∧X3 k m x=some v)∨((∀p∈m,p.1≠x)∧X3 k m x=none):=by
  by_cases e:∃p∈m,p.1=x
  · obtain ⟨p, hp, rfl⟩ := e
    obtain ⟨j,hj⟩:=aM.1 hp
    exact .inl ⟨p.2,hp,V9 hd hj rfl⟩
  · have e2 : ∀ p ∈ m, p.1 ≠ x := fun p hp g => e ⟨p, hp, g⟩
    exact .inr ⟨e2,U5 e2⟩
theorem KK {k:Ty}{V:Type}{m:List (k.Den×V)}{x:k.Den}{v:V}{p:k.Den×V}(hd:m.Pairwise fun p q=>p.1≠q.1):p∈Ui k m x v↔(p∈m∧p.1≠x)∨p=(x,v):=by
  have h1:=QeH (x:=x) (v:=v) hd
  constructor
  · intro hp
    rcases Qgl hp with e | hp2
    · exact .inr e
    · by_cases e : p.1 = x
      · right
        obtain ⟨j,hj⟩:=aM.1 hp
        have h2:=V9 h1 hj e
        rw[Vi,if_pos ((k.beq_iff _ _).2 rfl)] at h2
        cases h2
        exact Prod.ext e rfl
      · exact .inl ⟨hp2,e⟩
  · have h2:∀y w,(y,w)∈Ui k m x v↔X3 k (Ui k m x v) y=some w:=fun y w=>by
      rcases Qpu (x:=y) h1 with ⟨w',h2,h3⟩ | ⟨h2,h3⟩
      · rw [h3]
        refine ⟨fun h4=> ?_,fun h4=>by cases h4; exact h2⟩
        obtain ⟨j,hj⟩:=aM.1 h4
        rw[← V9 h1 hj rfl,h3]
      · rw[h3]; exact ⟨fun h4=>absurd rfl (h2 _ h4),fun h4=>by cases h4⟩
    rintro (⟨hp,e⟩ | rfl)
    · obtain ⟨y, w⟩ := p
      rw[h2,Vi,if_neg (fun g=>e ((k.beq_iff _ _).1 g).symm)]
      obtain ⟨j,hj⟩:=aM.1 hp
      exact V9 hd hj rfl
    · rw[h2,Vi,if_pos ((k.beq_iff _ _).2 rfl)]
theorem AfI.zero:AfI c h S [] []:=⟨bX,by simp,by simp⟩
theorem AfI.step {rs:List DAr}(g:AfI c h S rs A):AfI c h S (rs++[a]) (afS c S h A a):=by
  unfold afS
  split
  · rename_i h1
    have hold:∀v,v∈((X3 .str A (wdA c a)).getD [])↔∃b∈rs,inv h b=false∧b.1∈S∧wdA c b=wdA c a∧v=b.2.2.2:=fun v=>by
      rcases Qpu (k:= .str) (x:=wdA c a) g.nod with ⟨w,h2,h3⟩ | ⟨h2,h3⟩
      · rw[h3]; exact (g.mem _ h2).2 v
      · rw [h3]
        refine ⟨fun k=>(by cases k),fun ⟨b,k1,k2,k3,k4,_⟩=> ?_⟩
        obtain ⟨p,hp,e⟩:=g.all b k1 k2 k3
        exact absurd (e.trans k4) (h2 p hp)
    refine ⟨QeH (k:= .str) g.nod,fun p hp=> ?_,fun b hb k1 k2=> ?_⟩
    · rcases (KK (k := .str) g.nod).1 hp with ⟨hp, e⟩ | rfl
      · refine ⟨(g.mem p hp).1, fun v => ((g.mem p hp).2 v).trans ⟨fun ⟨b, k1, k2⟩ => ⟨b, aQ _ k1, k2⟩, fun ⟨b, k1, k2, k3, k4, k5⟩ => ?_⟩⟩
        rcases aK.1 k1 with k1 | k1
        · exact ⟨b,k1,k2,k3,k4,k5⟩
        · rw[aC] at k1; subst k1; exact absurd k4.symm e
      · refine ⟨⟨a.2.2.2, aT _ (aC.2 rfl)⟩, fun v => ?_⟩
        show v∈_++[a.2.2.2]↔_
        rw[aK,hold,aC]
        constructor
        · rintro (⟨b, k1, k2, k3, k4, k5⟩ | rfl)
          · exact ⟨b,aQ _ k1,k2,k3,k4,k5⟩
          · exact ⟨a,aT _ (aC.2 rfl),h1.2,h1.1,rfl,rfl⟩
        · rintro ⟨b, k1, k2, k3, k4, k5⟩
          rcases aK.1 k1 with k1 | k1
          · exact .inl ⟨b,k1,k2,k3,k4,k5⟩
          · rw[aC] at k1; subst k1; exact .inr k5
    · rcases aK.1 hb with hb | hb
      · obtain ⟨p, hp, e⟩ := g.all b hb k1 k2
        by_cases e2:p.1=wdA c a
        · exact ⟨_,(KK (k:= .str) g.nod).2 (.inr rfl),by rw[← e,e2]⟩
        · exact ⟨p,(KK (k:= .str) g.nod).2 (.inl ⟨hp,e2⟩),e⟩
      · rw [aC] at hb; subst hb
        exact ⟨_,(KK (k:= .str) g.nod).2 (.inr rfl),rfl⟩
  · rename_i h1
    refine ⟨g.nod,fun p hp=>⟨(g.mem p hp).1,fun v=>((g.mem p hp).2 v).trans ⟨fun ⟨b,k1,k2⟩=>⟨b,aQ _ k1,k2⟩,fun ⟨b,k1,k2,k3,k4⟩=> ?_⟩⟩,fun b hb k1 k2=> ?_⟩
    · rcases aK.1 k1 with k1 | k1
      · exact ⟨b,k1,k2,k3,k4⟩
      · rw[aC] at k1; subst k1; exact absurd ⟨k3,k2⟩ h1
    · rcases aK.1 hb with hb | hb
      · exact g.all b hb k1 k2
      · rw[aC] at hb; subst hb; exact absurd ⟨k2,k1⟩ h1
structure NxI (c:DSg) (h:Int) (V:ByteArray→Int→Prop) (M:DLv):Prop where
  nod:M.Pairwise fun p q=>p.1≠q.1
  mem:∀p∈M,(∃v,V p.1 v)∧∀u,u∈p.2↔Ch c.2.2 h (fun v=>V p.1 v) u
  all:∀s v,V s v→∃p∈M,p.1=s
theorem NxI.congr {V W:ByteArray→Int→Prop}(g:NxI c h V M)(e:∀s v,V s v↔W s v):NxI c h W M:=
  ⟨g.nod,fun p hp=>⟨(g.mem p hp).1.imp fun v hv=>(e _ _).1 hv,fun u=>((g.mem p hp).2 u).trans (Ch.congr fun v=>e _ _)⟩,fun s v hv=>g.all s v ((e _ _).2 hv)⟩
theorem NxI.zero:NxI c h (fun _ _=>False) []:=⟨bX,by simp,fun _ _ k=>k.elim⟩
theorem NxI.step {V:ByteArray→Int→Prop}{W:Int→Prop}(g:NxI c h V M)(hf:∀v,¬V s v)(hT:∀u,u∈T_↔Ch c.2.2 h W u)(hw:∃w,W w):NxI c h (fun s' v'=>V s' v'∨(s'=s∧W v')) (Ui .str M s T_):=by
  have hnew:∀p∈M,p.1≠s:=fun p hp e=>by
    obtain ⟨v,hv⟩:=(g.mem p hp).1
    rw[e] at hv; exact hf v hv
  refine ⟨QeH (k:= .str) g.nod,fun p hp=> ?_,fun s' v' hv=> ?_⟩
  · rcases (KK (k := .str) g.nod).1 hp with ⟨hp, e⟩ | rfl
    · exact ⟨(g.mem p hp).1.imp fun _=> .inl,fun u=>((g.mem p hp).2 u).trans (Ch.congr fun v=>⟨.inl,fun k=>k.resolve_right fun k=>e k.1⟩)⟩
    · exact ⟨hw.imp fun w hw=> .inr ⟨rfl,hw⟩,fun u=>(hT u).trans (Ch.congr fun v=>⟨fun k=> .inr ⟨rfl,k⟩,fun k=>k.elim (fun k=>absurd k (hf v)) fun k=>k.2⟩)⟩
  · rcases hv with hv | ⟨rfl, _⟩
    · obtain ⟨p, hp, e⟩ := g.all s' v' hv
      exact ⟨p,(KK (k:= .str) g.nod).2 (.inl ⟨hp,hnew p hp⟩),e⟩
    · exact ⟨_,(KK (k:= .str) g.nod).2 (.inr rfl),rfl⟩
def Vm (c:DSg)(h:Int)(D:DLv)(q:ByteArray×List Int)(E:DLv)(s:ByteArray)(v:Int):Prop:=Vs c h D s v∨∃p∈E,s=q.1++p.1∧v∈p.2
structure OuI (c:DSg) (h:Int) (n:Nat) (out:List ByteArray):Prop where
  nod:out.Nodup
  mem:∀t,t∈out↔∃m,m≤n∧∃u,Tr c h m t u
theorem OuI.zero:OuI c h 0 [ByteArray.empty]:=⟨by simp,fun t=>by
  rw[aC]
  exact ⟨fun e=>⟨0,aO _,0,by rw[e]; exact .zero⟩,fun ⟨m,hm,u,k⟩=>by rw[Nat.le_zero.1 hm] at k; exact (QaP.1 k).1⟩⟩
theorem OuI.len (hs:SgOk c)(ho:TO ltB){out:List ByteArray}(g:OuI c h n out):out.length=(txL c h n).length:=
  Nat.le_antisymm (H0 g.nod fun t ht=>(Qei hs n).2 ((g.mem t).1 ht)) (H0 (Qqk ho (QjA ho n)) fun t ht=>(g.mem t).2 ((Qei hs n).1 ht))
theorem OuI.next (hs:SgOk c){out:List ByteArray}(g:OuI c h n out)(k:Lev c h (n+1) M){E:DLv}(hE:E.Perm M):OuI c h (n+1) (out++E.map fun p=>p.1):=by
  have hn:(E.map fun p=>p.1).Nodup:=by
    unfold List.Nodup
    rw[List.pairwise_map]
    exact hE.symm.pairwise k.nod fun h e=>h e.symm
  refine ⟨b9.2 ⟨g.nod,hn,fun x hx y hy e=> ?_⟩,fun t=> ?_⟩
  · subst e
    obtain ⟨m,hm,u,k1⟩:=(g.mem x).1 hx
    obtain ⟨p,hp,rfl⟩:=ba.1 hy
    have h2:=k.mem p (hE.mem_iff.1 hp)
    obtain ⟨u2,hu2⟩:=h2.1
    have:=Qp4 hs k1 ((h2.2 u2).1 hu2)
    omega
  · rw [aK, g.mem]
    constructor
    · rintro (⟨m, hm, k1⟩ | h1)
      · exact ⟨m,by omega,k1⟩
      · obtain ⟨p, hp, rfl⟩ := ba.1 h1
        have h2:=k.mem p (hE.mem_iff.1 hp)
        exact ⟨n+1,aO _,h2.1.imp fun u hu=>(h2.2 u).1 hu⟩
    · rintro ⟨m, hm, u, k1⟩
      by_cases e:m=n+1
      · subst e
        obtain ⟨p,hp,rfl⟩:=k.all t u k1
        exact .inr (ba.2 ⟨p,hE.mem_iff.2 hp,rfl⟩)
      · exact .inl ⟨m,by omega,u,k1⟩
end
end Go.Proofs.YtfkmmpfdncopdaaGreat
namespace Go.Proofs.YtfkmmpfdncopdaaGreat
open Go.RowKit
set_option maxRecDepth 100000
set_option maxHeartbeats 4000000
theorem Qnd {α:Type _}[DecidableEq α]{lt:α→α→Bool}(x:α):∀l:List α,(QN lt x l).length≤l.length+1
  | []=>aO _
  | y :: l=>by
    unfold QN
    have:=Qnd (lt:=lt) x l
    split
    · simp only[au]; omega
    · split <;> simp
section
variable {c:DSg}{h:Int}{n k i j:Nat}{S set:List Int}{a:DAr}{rs as_:List DAr}{x y z:DTx}{l L out:List DTx}{s t:ByteArray}{u v:Int}{g:Qz}
def ftT (x:DTx)(j:Nat)(y:DTx):DTx:=(y.1,(x.2.1.take j).foldl (fun s k=>QN ltI k s) y.2.1,y.2.2)
theorem QfL:∀(m:List Int) {s:List Int},(m.foldl (fun s k=>QN ltI k s) s).length≤s.length+m.length
  | [],s=>aO _
  | k :: m,s=>by have h1:=QfL m (s:=QN ltI k s); have h2:=Qnd (lt:=ltI) k s; simp only[bu,au]; omega
def Sm (N:Nat)(l:List DTx):Prop:=l.length≤N∧∀y∈l,y.2.1.length≤N
theorem Sm.put (g:Sm n l)(hx:x.2.1.length≤1):Sm (n+1) (Ko l x):=by
  obtain ⟨g1,g2⟩:=g
  suffices k:∀l:List DTx,(∀y∈l,y.2.1.length≤n)→(Ko l x).length≤l.length+1∧∀y∈Ko l x,y.2.1.length≤n+1 by
    obtain ⟨k1,k2⟩:=k l g2
    exact ⟨by omega,k2⟩
  intro l
  induction l with
  | nil=>exact fun _=>⟨aO _,fun y hy=>by rw[Ko,aC] at hy; subst hy; omega⟩
  | cons z l ih=>
    intro hl
    rw[Ko]
    split
    · refine ⟨by simp, fun y hy => ?_⟩
      rcases aE.1 hy with rfl | hy
      · have h1 := QfL x.2.1 (s := z.2.1)
        have h2:=hl z (az ..)
        dsimp only; omega
      · have:=hl y (ax _ hy); omega
    · obtain ⟨k1, k2⟩ := ih fun y hy => hl y (ax _ hy)
      refine ⟨by simp only[au]; omega,fun y hy=> ?_⟩
      rcases aE.1 hy with rfl | hy
      · have:=hl y (az ..); omega
      · exact k2 y hy
theorem Sm.ar (g:Sm n l):Sm (n+1) (arT c h x l a):=by
  unfold arT
  split
  · exact g.put (aO _)
  · exact ⟨cR g.1,fun y hy=>cR (g.2 y hy)⟩
theorem Sm.row:∀(as_:List DAr) {n:Nat} {l:List DTx},Sm n l→Sm (n+as_.length) (QoC c h as_ x l)
  | [],_,_,g=>g
  | a :: l,n,_,g=>by
    have:=Sm.row l (g.ar (c:=c) (h:=h) (x:=x) (a:=a))
    rw[show n+(a :: l).length=n+1+l.length by simp only[au]; omega]
    exact this
theorem Sm.le {m:Nat}(g:Sm n l)(h:n≤m):Sm m l:=⟨by have:=g.1; omega,fun y hy=>by have:=g.2 y hy; omega⟩
theorem Sm.zero:Sm 0 []:=⟨aO _,fun _ h=>by cases h⟩
def txP (c:DSg)(h:Int):Nat→List ByteArray
  | 0=>[]
  | n+1=>txL c h n
end
end Go.Proofs.YtfkmmpfdncopdaaGreat
namespace Go.Proofs.YtfkmmpfdncopdaaGreat
open Go.RowKit
set_option maxRecDepth 100000
set_option maxHeartbeats 4000000
section
variable {c:DSg}{h:Int}{n k i j:Nat}{S set:List Int}{a:DAr}{rs as_:List DAr}{out:List Int}{s t:ByteArray}{u v:Int}{K M A D E L L1 L2:DLv}{p q:ByteArray×List Int}
def clV (c:DSg)(h:Int)(S:List Int):List Int:=clL c.2.2 h 301 0 S
@[reducible] def Rng (c:DSg) (S:List Int):Prop:=S.Nodup∧∀u∈S,0≤u∧u < (c.2.1.length:Int)
def edT (ss:List Qz)(l:Int×Bool):ByteArray:=if l.1 < 0 then ⟨#[126]⟩ else ((ss[l.1.toNat]?).getD (ByteArray.empty,0)).1++sgB l.2
def afT (c:DSg)(S:List Int)(h:Int)(i:Nat):DLv:=(c.2.2.take i).foldl (afS c S h) []
end
end Go.Proofs.YtfkmmpfdncopdaaGreat
namespace Go.Proofs.YtfkmmpfdncopdaaGreat
open Go.RowKit
set_option maxRecDepth 100000
set_option maxHeartbeats 4000000
def Yq (l:List ByteArray)(s:ByteArray):Bool:=l.any fun y=>decide (s=y)
theorem Yt {l:List ByteArray}{s:ByteArray}:Yq l s=true↔s∈l:=by
  unfold Yq
  rw[bC]
  exact ⟨fun ⟨y,hy,e⟩=>by rw[ae e]; exact hy,fun h=>⟨s,h,aJ rfl⟩⟩
theorem Qqz {l:List ByteArray}{s:ByteArray}(h:¬s∈l):Yq l s=false:=cr.2 fun e=>h (Yt.1 e)
section
variable {l:List ByteArray}{s y:ByteArray}{m:Int}
theorem Qn9 (hP:∀j:Nat,(j:Int) < m→∀y,l[j]? =some y→ltB y s=true)(hy:l[m.toNat]? =some y)(h:Op.bytesLess y.toList s.toList=true):∀j:Nat,(j:Int) < m+1→∀z,l[j]? =some z→ltB z s=true:=fun j hj z hz=>by
  by_cases e:(j:Int) < m
  · exact hP j e z hz
  · have : j = m.toNat := by omega
    subst this
    rw[hy] at hz; cases hz; exact h
theorem Qsk (hP:∀j:Nat,(j:Int) < m→∀y,l[j]? =some y→ltB y s=true)(h0:0≤m)(h1:m≤(l.length:Int))(h:∀y,l[m.toNat]? =some y→ltB y s=false∧y≠s):l.take m.toNat++[s]++l.drop m.toNat=QN ltB s l:=by
  rw[QeT (k:=m.toNat) (fun j hj z hz=>hP j (by omega) z hz) (by omega) h]; simp
end
theorem Up (l:List ByteArray)(s:ByteArray):FC Tryz.prog 69 [(false,[.dat (.sl 9 .str) l]),(false,[dS s])] [] 0 (QH (lB (Yq l s))):=by
 refine Ql Tryz.func69 rfl rfl Tryz.ntmps69 fun O_ hO w0_ N0_ X_ h0_ f0_=> ?_
 iterate 6 refine w_ ?_
 refine alL 7 fun hl1=> ?_
 iterate 4 refine w_ ?_
 refine lpK l.length (fun k=>∀j,j < k→∀y,l[j]? =some y→¬y=s) (fun k=>⟨[(1,lf (dS s)),(7,lf (.dat (.sl 9 .str) l)),(8,lI (l.length:Int)),(9,lI (k:Int))],[]⟩) ((fun j hj=>absurd hj (b8 j))) ?_ fun k hk2 hno=> ?_
 · exact Wk.of [] rfl ⟨rfl,rfl,rfl,rfl,trivial⟩ trivial rfl rfl
 iterate 4 refine w_ ?_
 cases hb3:(decide ((k:Int) < (l.length:Int)))
 ·have hb3':=ab hb3
  refine w_ ?_
  refine Qj ?_
  refine (?_:AC _ _ _ _ _)
  iterate 3 refine w_ ?_
  refine Qb<|fqB hO ?_
  first | exact (Qqz fun hm=>by obtain ⟨j,hj⟩:=aM.1 hm; exact hno j (by have:=(ah.1 hj).1; omega) s hj rfl).symm
 ·have hb3':=ae hb3
  iterate 5 refine w_ ?_
  obtain ⟨x4,hx5⟩:∃z,l[k]? =some z:=⟨_,aa (by omega)⟩
  iterate 9 refine w_ ?_
  cases hb6:(decide (x4=s))
  ·have hb6':=ab hb6
   refine w_ ?_
   refine AC.skip ?_
   refine (?_:AC _ _ _ _ _)
   iterate 3 refine w_ ?_
   refine Qd ?_
   refine lK_ ((XB hno hx5 (by assumption))) ?_
   exact Wk.of [] rfl ⟨rfl,rfl,rfl,rfl,trivial⟩ trivial rfl rfl
  ·have hb6':=ae hb6
   iterate 4 refine w_ ?_
   refine Qb<|fqB hO ?_
   exact (Yt.2 (by have:=ap hx5; simp_all)).symm
section
variable {c:DSg}[Decidable (SgOk c)]{h m mo:Int}{n:Nat}
end
section
variable {a b:Zq}[∀s,Decidable (StgOk s)][∀c,Decidable (SgOk c)]{m:Int}{k:Nat}{s:ByteArray}
def tiV (a b:Zq)[∀s,Decidable (StgOk s)][∀c,Decidable (SgOk c)](m:Int):Bool×Bool:=
  if (sgV a).2=true∧(sgV b).2=true∧(trV (sgV a).1 (-1) m).2=true∧(trV (sgV b).1 (-1) m).2=true then ((trV (sgV a).1 (-1) m).1.all fun s=>Yq (trV (sgV b).1 (-1) m).1 s,true) else (false,false)
end
end Go.Proofs.YtfkmmpfdncopdaaGreat
namespace Go.Proofs.YtfkmmpfdncopdaaGreat
open Go.RowKit
set_option maxRecDepth 100000
set_option maxHeartbeats 4000000
def kyL (B:DLv):List ByteArray:=B.map fun p=>p.1
section
variable {c:DSg}[Decidable (SgOk c)]{h m:Int}{n k:Nat}{M B Z:DLv}{out:List ByteArray}{z:ByteArray×List Int}
end
theorem XM (s:List ByteArray)(v:ByteArray):FC Tryz.prog 161 [(false,[.dat (.sl 9 .str) s]),(false,[dS v])] [] 0 (QH (lI (Q4 (fun y=>decide (v=y)) s))):=by
 refine Ql Tryz.func161 rfl rfl Tryz.ntmps161 fun O_ hO w0_ N0_ X_ h0_ f0_=> ?_
 iterate 6 refine w_ ?_
 refine alL 6 fun hl1=> ?_
 iterate 4 refine w_ ?_
 refine lpK s.length (fun k=>NoneTo (fun y=>decide (v=y)) s k) (fun k=>⟨[(0,lf (.dat (.sl 9 .str) s)),(1,lf (dS v)),(7,lI (s.length:Int)),(8,lI (k:Int))],[]⟩) (NoneTo.zero) ?_ fun k hk2 hno=> ?_
 · exact Wk.of [] rfl ⟨rfl,rfl,rfl,rfl,trivial⟩ trivial rfl rfl
 iterate 4 refine w_ ?_
 cases hb3:(decide ((k:Int) < (s.length:Int)))
 ·have hb3':=ab hb3
  refine w_ ?_
  refine Qj ?_
  refine (?_:AC _ _ _ _ _)
  iterate 3 refine w_ ?_
  refine Qb<|fqI hO ?_
  first | exact (hno.no (by omega)).symm
 ·have hb3':=ae hb3
  iterate 12 refine w_ ?_
  obtain ⟨x4,hx5⟩:∃z,s[k]? =some z:=⟨_,aa (by omega)⟩
  iterate 4 refine w_ ?_
  cases hb6:(decide (v=x4))
  ·have hb6':=ab hb6
   refine w_ ?_
   refine AC.skip ?_
   refine (?_:AC _ _ _ _ _)
   iterate 3 refine w_ ?_
   refine Qd ?_
   refine lK_ (hno.step hx5 (by assumption)) ?_
   exact Wk.of [] rfl ⟨rfl,rfl,rfl,rfl,trivial⟩ trivial rfl rfl
  ·have hb6':=ae hb6
   iterate 5 refine w_ ?_
   refine Qb<|fqI hO ?_
   exact (hno.at hx5 (by assumption)).symm
theorem Zv (s:List ByteArray)(v:ByteArray):FC Tryz.prog 66 [(false,[.dat (.sl 9 .str) s]),(false,[dS v])] [] 0 (QH (lB (s.any (fun y=>decide (v=y))))):=by
 refine Ql Tryz.func66 rfl rfl Tryz.ntmps66 fun O_ hO w0_ N0_ X_ h0_ f0_=> ?_
 iterate 6 refine w_ ?_
 refine lc (dK (XM s v) Qha) ?_
 iterate 3 refine w_ ?_
 refine Qb<|fqB hO ?_
 exact XL _ _
section
variable {a b:Zq}[∀s,Decidable (StgOk s)][∀c,Decidable (SgOk c)]{m:Int}
end
end Go.Proofs.YtfkmmpfdncopdaaGreat
namespace Go.Proofs.YtfkmmpfdncopdaaGreat
open Go.RowKit
set_option maxRecDepth 100000
set_option maxHeartbeats 4000000
def Qr1 (f:Hdr→List Int):Option (List Int)→List Hdr→List Hdr
  | _,[]=>[]
  | p,y :: l=>if p=some (f y) then Qr1 f p l else y :: Qr1 f (some (f y)) l
section
variable {f:Hdr→List Int}{vs zs:List Hdr}{m k:Nat}{x y:Hdr}{l:List (List Int)}{i j n:Int}
end
end Go.Proofs.YtfkmmpfdncopdaaGreat
namespace Go.Proofs.YtfkmmpfdncopdaaGreat
open Go.RowKit
set_option maxRecDepth 100000
set_option maxHeartbeats 4000000
theorem QbC {α:Type _}[DecidableEq α]{lt:α→α→Bool}(x:α):∀l:List α,(QN lt x l).length≤l.length+1
  | []=>aO _
  | y :: l=>by
    unfold QN
    have:=QbC (lt:=lt) x l
    split
    · simp only[au]; omega
    · split <;> simp
def shV (n:Y0)(t u:Int):Bool:=((n.2[t.toNat]?).getD ([],[])).1.any fun z=>decide (z∈((n.2[u.toNat]?).getD ([],[])).1)
def Qta (n:Y0)(t:Int)(l:List Int):List (List Int):=(l.filter fun u=>decide (t < u)&& !shV n t u).map fun u=>[t,u]
def Qs6 (n:Y0)(t:Int)(l:List Int):List (List Int):=(l.filter fun u=> !shV n t u).map fun u=>[t,u]
def QtT (n:Y0)(on l:List Int):List (List Int):=l.flatMap fun t=>Qta n t on
def Qup (n:Y0)(on:List Int)(k:Nat):List (List Int):=(List.range k).flatMap fun i=>Qs6 n ((on[i]?).getD 0) (on.drop (i+1))
def Qub (n:Y0)(ms:List ByteArray):List (List Int):=ms.flatMap fun mk=>QtT n (Ug n mk) (Ug n mk)
section
variable {n:Y0}{k f i j:Nat}{mk:ByteArray}{t u:Int}{ts on l:List Int}{st:RS}{s:Zq}{xt xu:QP}{ms:List ByteArray}{as_ bs:List (List Int)}
end
section
variable {vs vs2:List Hdr}{gf gf2 gj:Hdr→List Int}{l:List (List Int)}{m:Int}{x:List Int}
end
end Go.Proofs.YtfkmmpfdncopdaaGreat
namespace Go.Proofs.YtfkmmpfdncopdaaGreat
open Go.RowKit
set_option maxRecDepth 100000
set_option maxHeartbeats 4000000
theorem Qji {n:Nat}{arcs:List DAr}:∀{f k:Nat} {c d:List ByteArray},goS n arcs f k c=some d→d.length=c.length
  | 0,_,c,d,h=>by rw[goS] at h; cases h; rfl
  | f+1,k,c,d,h=>by
    rw[goS] at h
    split at h
    · rw[Qji h,QfJ]
    · cases h
section
variable [∀s,Decidable (StgOk s)]{s:Zq}
theorem QiS (h:(sgV s).2=true):SgW (sgV s).1:=by
  unfold sgV at h ⊢
  split at h
  · rename_i h1
    rw[if_pos h1]
    obtain ⟨hs,hN1,hN2,_,hM,hL⟩:=ZV h1.1
    split at h
    · rename_i c hg
      have hl:=Qji hg
      rw[aA] at hl
      refine ⟨hs.sigs.2.2,⟨by show 1≤c.length; omega,by show c.length≤300; omega⟩, ?_, ?_⟩
      · show (Qv _ _).length ≤ _
        unfold Qv
        rw[aP]; omega
      · intro a ha
        refine ⟨?_, ?_⟩
        · show InR c.length a
          rw[hl]; exact Wt hM a ha
        · obtain ⟨v, hv, rfl⟩ := ba.1 ha
          obtain ⟨_,⟨h2,h3⟩,_⟩:=hM v hv
          obtain ⟨l,hl2⟩:∃l,s.2.2.1[v.2.1.toNat]? =some l:=⟨_,aa (by omega)⟩
          have h4:=hs.labs l (ap hl2)
          show UH (s.2.1.length:Int) ((Qcx s.2.2.1 v.2.1).1,(Qcx s.2.2.1 v.2.1).2)
          rw[QeI hl2]; exact h4
    · cases h
  · cases h
end
end Go.Proofs.YtfkmmpfdncopdaaGreat
namespace Go.Proofs.YtfkmmpfdncopdaaGreat
open Go.RowKit
@[reducible] def Ex {X:Type} (Q:X→Prop) (pv:X→PV) (T:X→Tab):PV→Tab→Prop:=fun p T'=>∃x,Q x∧p=pv x∧T'=T x
section
variable {A:Amb}{P:Program}{s:St}{f:FuncId}{xs:List Operand}{tys:Array TypeId}{args:List (Bool×List LV)}{d:Nat}{ty:TypeId}{pos:String}{af:Array Edge}{g:Option (Nat×Bool)}{T:Tab}{k:Nat}
  {X:Type} {Qx:X→Prop} {pv:X→PV} {T':X→Tab} {ops:Array Oper} {l:List Oper} {Q:Exit→St→Prop}
theorem DoesT.callX (n:Nat)(ρ:List (Nat×Nat))(hc:FC P f args T k (Ex Qx pv T'))(hE:Qe P f)(ha:EvL A s xs (args.map fun c=>(c.1,c.2.map (LV.ren (rn ρ)))))(hT:HasE s ρ T)
    (hi:(XY (T.map fun p=>rn ρ p.1)&&Nat.blt d A.n)=true) (hB:∀x,(Yd (pv x) (T' x)&&XY ((T' x).map fun p=>sg ρ k n p.1)&&Qfu T (T' x) k)=true) (hfr:∀x,FrK s n k (Zz (T' x))) (hk0:A.k0≤n):
    DoesT A P ⟨some d, .call ⟨.value (.func f),xs.toArray,tys⟩,ty,pos,af,g⟩ s (fun s'=>∃x,Qx x∧s'=s.backP d (sg ρ k n) (T.map fun p=>rn ρ p.1) (pv x) (T' x)):=fun a w K Q r hK=>by
  obtain ⟨gh,r⟩:=r
  rw[aL] at hi
  obtain ⟨hi,hn⟩:=hi
  have hal:∀q,T.al q→s.tab.al (rn ρ q):=fun q ⟨e,h⟩=>⟨_,hT.get h⟩
  have hinj:∀q q',T.al q→T.al q'→rn ρ q=rn ρ q'→q=q':=fun q q' h1 h2 h=>Un hi h1 h2 h
  have cx0:Cx T (gh.via (rn ρ)) w:=⟨fun q e h=>(EntR.ren.1 (r.cx.en _ _ (hT.get h))).mono (fun r' _ h'=>⟨hal r' h',rfl⟩) (fun g hg=>⟨hg,rfl⟩) rfl rfl fun _ _=>rfl,
    fun q q' h1 h2 hne=>r.cx.dj _ _ (hal q h1) (hal q' h2) fun h=>hne (hinj q q' h1 h2 h),fun q h=>r.cx.nd _ (hal q h),fun q h=>r.cx.no _ (hal q h),r.cx.nl⟩
  have hv:=(CmsR.ren.1 (ha.cms r)).mono (al':=T.al) (gh':=gh.via (rn ρ)) (w':=w) (fun q _ h=>⟨hal q h,rfl⟩) fun g hg=>⟨hg,rfl⟩
  refine Ka hE rfl (Calls.mono (hc _ w _ cx0 hv) fun e w' he=> ?_)
  obtain ⟨v,pv',T2,gh',rfl,⟨x,hq,rfl,rfl⟩,cx,hp,fr,hkk⟩:=he
  have h2:=hB x
  simp only[aL] at h2
  refine hK _ _ _ ⟨x,hq,rfl⟩ (Qft n ρ r hT hi h2.1.1 h2.1.2 (fun q ⟨e,hq⟩ hk=> ?_) (fun q ⟨e,hq⟩ hk=>(hfr x).get q (Zb hq).1 hk) hk0 hn cx hp fr hkk)
  have:=aB.1 h2.2 q (Zb hq).1
  rw[show Nat.blt q k=true from cA hk] at this
  exact b7.1 (by simpa using this)
theorem Yv (n:Nat)(ρ:List (Nat×Nat))(hc:FC P f args T k (Ex Qx pv T'))(hE:Qe P f)(ha:EvL A s xs (args.map fun c=>(c.1,c.2.map (LV.ren (rn ρ)))))(hT:HasE s ρ T)
    (hi:(XY (T.map fun p=>rn ρ p.1)&&Nat.blt d A.n)=true) (hB:∀x,(Yd (pv x) (T' x)&&XY ((T' x).map fun p=>sg ρ k n p.1)&&Qfu T (T' x) k)=true) (hfr:∀x,FrK s n k (Zz (T' x))) (hk0:A.k0≤n)
    (h:∀x,Qx x→AL A P ops l Q (s.backP d (sg ρ k n) (T.map fun p=>rn ρ p.1) (pv x) (T' x))):AL A P ops (⟨some d, .call ⟨.value (.func f),xs.toArray,tys⟩,ty,pos,af,none⟩ :: l) Q s:=
  Qnf rfl (DoesT.callX n ρ hc hE ha hT hi hB hfr hk0) fun s' ⟨x,hq,e⟩=>e▸h x hq
theorem Q5 {fn:Func}{s:St}(x:X)(ρ:List (Nat×Nat)){pv0:PV}(hq:Qx x)(h1:Res A P fn s pv0)(h0:pv0=(pv x).ren (rn ρ))(h2:HasE ⟨[],s.tab⟩ ρ (T' x))(h3:XY ((T' x).map fun x=>rn ρ x.1)=true)(h4:idB ρ k=true):fin A P fn (K4 (Ex Qx pv T') k) .ret s:=
  QaQ (pv x) (T' x) ρ (h0▸h1) h2 h3 h4 ⟨x,hq,rfl,rfl⟩
end
section
variable {A:Amb}{P:Program}{s:St}{f:FuncId}{xs:List Operand}{tys:Array TypeId}{args:List (Bool×List LV)}{d:Nat}{ty T:TypeId}{pos:String}{af:Array Edge}{g:Option (Nat×Bool)}
  {X:Type} {Qx:X→Prop} {pv:X→PV} {ops:Array Oper} {l:List Oper} {Q:Exit→St→Prop} {x:Operand}
end
end Go.Proofs.YtfkmmpfdncopdaaGreat
namespace Go.Proofs.YtfkmmpfdncopdaaGreat
open Go.RowKit
set_option maxRecDepth 100000
set_option maxHeartbeats 4000000
def spS (s:ByteArray)(b:UInt8):Nat→List ByteArray×Int
  | 0=>([],0)
  | i+1=>if s[i]? =some b then ((spS s b i).1++[s.extract (spS s b i).2.toNat i],(i:Int)+1) else spS s b i
def Zw (s:ByteArray)(b:UInt8):List ByteArray:=(spS s b s.size).1++[s.extract (spS s b s.size).2.toNat s.size]
section
variable {s:ByteArray}{b c:UInt8}{i:Nat}
theorem QnJ (h:s[i]? =some c)(e:c=b):((spS s b i).1++[s.extract (spS s b i).2.toNat i],(i:Int)+1)=spS s b (i+1):=by rw[spS,if_pos (by rw[h,e])]
theorem QpZ (h:s[i]? =some c)(e:¬c=b):spS s b i=spS s b (i+1):=by rw[spS,if_neg (by rw[h]; simpa using e)]
theorem Qjt:0≤(spS s b i).2∧(spS s b i).2≤(i:Int)∧(spS s b i).1.length≤i:=by
  induction i with
  | zero=>exact ⟨dh _,dh _,aO _⟩
  | succ i ih=>
    rw[spS]
    split
    · refine ⟨by show (0 : Int) ≤ (i : Int) + 1; omega, by show ((i : Int) + 1) ≤ ((i + 1 : Nat) : Int); omega, ?_⟩
      rw[ai,au,aF]; omega
    · obtain ⟨h1,h2,h3⟩:=ih; exact ⟨h1,by omega,by omega⟩
theorem Qk5:(Zw s b).length≤s.size+1:=by
  unfold Zw
  have:=Qjt (s:=s) (b:=b) (i:=s.size)
  rw[ai,au,aF]; omega
end
abbrev DTr:=List Int×List Int
abbrev DB:=Zq×List ByteArray×List ByteArray
def b0 (t:ByteArray):UInt8:=(t[0]?).getD 0
def bZ (t:ByteArray):UInt8:=(t[t.size - 1]?).getD 0
def Km (l:List ByteArray)(x:ByteArray):Bool:=l.any fun y=>decide (y=x)
def atB (l:List ByteArray)(x:ByteArray):Int:=if Km l x=true then Q4 (fun y=>decide (y=x)) l else (l.length:Int)
def plV (b:DB)(name:ByteArray):DB:=if Km b.2.1 name=true then b else (((b.1.1.1+1,b.1.1.2),b.1.2.1,b.1.2.2.1,b.1.2.2.2++(⟨#[48]⟩:ByteArray)),b.2.1++[name],b.2.2)
def plI (b:DB)(name:ByteArray):Int:=atB b.2.1 name
def Jq (word:ByteArray):ByteArray:=((Zw word 47)[0]?).getD ByteArray.empty
def QhP (G:List Qz)(word:ByteArray):ZF:=if b0 (Jq word)=126 then (-1,false) else (Q4 (fun g=>decide (g.1=(Jq word).extract 0 ((Jq word).size - 1))) G,decide (bZ (Jq word)=43))
def Zi (b:DB)(word:ByteArray):DB:=if Km b.2.2 word=true then b else (((b.1.1.1,b.1.1.2++[([],[])]),b.1.2.1,b.1.2.2.1++[QhP b.1.2.1 word],b.1.2.2.2),b.2.1,b.2.2++[word])
def trI (b:DB)(word:ByteArray):Int:=atB b.2.2 word
def Ki (text:ByteArray):ByteArray:=if b0 text=42 then text.extract 1 text.size else text
def Y2 (text:ByteArray)(k:Nat):ByteArray:=((Zw (Ki text) 62)[k]?).getD ByteArray.empty
def Jg (text:ByteArray):ByteArray:=if b0 (Y2 text 1)=95 then Y2 text 1 else if b0 (Y2 text 0)=95 then Y2 text 0 else Ki text
def QbP (T:List DTr)(t p:Int):List DTr:=T.modify t.toNat fun x=>(x.1,QN ltI p x.2)
def Qa8 (T:List DTr)(t p:Int):List DTr:=T.modify t.toNat fun x=>(QN ltI p x.1,x.2)
def ar1 (p:Int)(b:DB)(text:ByteArray):DB:=if b0 (Y2 text 0)=95 then b else
  let c:=Zi b (Y2 text 0); (((c.1.1.1,QbP c.1.1.2 (trI b (Y2 text 0)) p),c.1.2.1,c.1.2.2.1,c.1.2.2.2),c.2.1,c.2.2)
def ar2 (p:Int)(b:DB)(text:ByteArray):DB:=if b0 (Y2 text 1)=95 then b else
  let c:=Zi b (Y2 text 1); (((c.1.1.1,Qa8 c.1.1.2 (trI b (Y2 text 1)) p),c.1.2.1,c.1.2.2.1,c.1.2.2.2),c.2.1,c.2.2)
def Qlr (s:ByteArray)(p:Int):ByteArray:=s.extract 0 p.toNat++(⟨#[49]⟩:ByteArray)++s.extract (p+1).toNat s.size
def arV (b:DB)(text:ByteArray):DB:=
  let p:=plI b (Jg text)
  let c:=ar2 p (ar1 p (plV b (Jg text)) text) text
  if b0 text=42 then ((c.1.1,c.1.2.1,c.1.2.2.1,Qlr c.1.2.2.2 p),c.2.1,c.2.2) else c
def sgN (names:ByteArray)(kd:Int)(i:Nat):List Qz:=(List.range i).map fun j=>(names.extract j (j+1),kd)
def sgA:List ByteArray→Int→List Qz
  | [],_=>[]
  | n :: l,k=>sgN n k n.size++sgA l (k+1)
def buG (ins outs inner:ByteArray):List Qz:=sgA [ins,outs,inner] 1
def buB (G:List Qz)(arcs:ByteArray):DB:=(Zw arcs 32).foldl arV (((0,[]),G,[],ByteArray.empty),[],[])
def Qr (ins outs inner arcs:ByteArray):Zq:=(buB (buG ins outs inner) arcs).1
def okW (w:ByteArray):Bool:=decide (1≤w.size)&&(decide (b0 w=95)||decide (1≤(Jq w).size))
def okA (t:ByteArray):Bool:=decide (1≤t.size)&&(decide (2≤(Zw (Ki t) 62).length)&&(okW (Y2 t 0)&&okW (Y2 t 1)))
section
variable {l:List ByteArray}{x name word text:ByteArray}{b c:DB}{G:List Qz}{n k:Nat}
theorem QoJ {α:Type _}{f:α→Bool}{l:List α}(h:l.any f=true):0≤Q4 f l∧Q4 f l < (l.length:Int):=by
  have h1:=XL f l
  rw[h,aV] at h1
  refine ⟨h1, ?_⟩
  unfold Q4 at*
  cases hf:l.findIdx? f with
  | none=>rw[hf] at h1; simp at h1
  | some i=>
    have:=(bT.1 hf).1
    simpa using this
theorem QlC (h:Km l x=true):0≤atB l x∧atB l x < (l.length:Int):=by
  unfold atB; rw[if_pos h]; exact QoJ h
theorem JJ (h:Km l x=false):atB l x=(l.length:Int):=if_neg (by rw[h]; decide)
theorem Qlh (hn:NoneTo (fun y=>decide (y=x)) l k){y:ByteArray}(hx:l[k]? =some y)(e:y=x):(k:Int)=atB l x:=by
  unfold atB
  have h1:Km l x=true:=Qnj hx (aJ e)
  rw[if_pos h1,hn.at hx (aJ e)]
theorem YB {y:ByteArray}(hx:l[k]? =some y)(e:y=x):Km l x=true:=Qnj hx (aJ e)
theorem ZT (hn:NoneTo (fun y=>decide (y=x)) l k)(hk:l.length≤k):Km l x=false:=hn.any_no hk
theorem V1 (h:Km b.2.1 name=true):plV b name=b:=if_pos h
theorem We (h:Km b.2.1 name=false):plV b name=(((b.1.1.1+1,b.1.1.2),b.1.2.1,b.1.2.2.1,b.1.2.2.2++(⟨#[48]⟩:ByteArray)),b.2.1++[name],b.2.2):=if_neg (by rw[h]; decide)
theorem Wf (h:Km b.2.2 word=true):Zi b word=b:=if_pos h
theorem ZN (h:Km b.2.2 word=false):Zi b word=(((b.1.1.1,b.1.1.2++[([],[])]),b.1.2.1,b.1.2.2.1++[QhP b.1.2.1 word],b.1.2.2.2),b.2.1,b.2.2++[word]):=if_neg (by rw[h]; decide)
structure DBJ (b:DB) (p w m:Nat):Prop where
  st:b.1.2.2.2.size=b.2.1.length
  tr:b.1.1.2.length=b.2.2.length
  la:b.1.2.2.1.length=b.2.2.length
  p0:b.1.1.1=(b.2.1.length:Int)
  pl:b.2.1.length≤p
  ws:b.2.2.length≤w
  inn:∀t∈b.1.1.2,t.1.length≤m∧t.2.length≤m
theorem QiW:0≤plI b name∧plI b name < ((plV b name).2.1.length:Int):=by
  unfold plI
  cases h:Km b.2.1 name with
  | true=>rw[V1 h]; exact QlC h
  | false=>rw[We h,JJ h,ai]; simp only[au,aF]; omega
theorem Qiy:0≤trI b word∧trI b word < ((Zi b word).2.2.length:Int):=by
  unfold trI
  cases h:Km b.2.2 word with
  | true=>rw[Wf h]; exact QlC h
  | false=>rw[ZN h,JJ h,ai]; simp only[au,aF]; omega
theorem Qd0:(Zi b word).1.1.1=b.1.1.1∧(Zi b word).1.2.1=b.1.2.1∧(Zi b word).1.2.2.2=b.1.2.2.2∧(Zi b word).2.1=b.2.1:=by unfold Zi; split <;> exact ⟨rfl,rfl,rfl,rfl⟩
theorem DBJ.pl_ {p w m:Nat}(h:DBJ b p w m):DBJ (plV b name) (p+1) w m:=by
  cases hi:Km b.2.1 name with
  | true=>rw[V1 hi]; exact ⟨h.st,h.tr,h.la,h.p0,cR h.pl,h.ws,h.inn⟩
  | false=>
    rw[We hi]
    have hs:(⟨#[48]⟩:ByteArray).size=1:=rfl
    refine ⟨?_,h.tr,h.la, ?_, ?_,h.ws,h.inn⟩
    · show (b.1.2.2.2 ++ (⟨#[48]⟩ : ByteArray)).size = (b.2.1 ++ [name]).length
      rw[aN,ai,h.st,hs]; rfl
    · show b.1.1.1 + 1 = ((b.2.1 ++ [name]).length : Int)
      rw[ai,h.p0]; simp
    · show (b.2.1 ++ [name]).length ≤ p + 1
      rw[ai]; have:=h.pl; simp only[au,aF]; omega
theorem DBJ.tr_ {p w m:Nat}(h:DBJ b p w m):DBJ (Zi b word) p (w+1) m:=by
  cases hi:Km b.2.2 word with
  | true=>rw[Wf hi]; exact ⟨h.st,h.tr,h.la,h.p0,h.pl,cR h.ws,h.inn⟩
  | false=>
    rw[ZN hi]
    refine ⟨h.st, ?_, ?_,h.p0,h.pl, ?_, ?_⟩
    · show (b.1.1.2 ++ [([], [])]).length = (b.2.2 ++ [word]).length
      rw[ai,ai,h.tr]; rfl
    · show (b.1.2.2.1 ++ [QhP b.1.2.1 word]).length = (b.2.2 ++ [word]).length
      rw[ai,ai,h.la]; rfl
    · show (b.2.2 ++ [word]).length ≤ w + 1
      rw[ai]; have:=h.ws; simp only[au,aF]; omega
    · intro t ht
      rcases aK.1 ht with ht | ht
      · exact h.inn t ht
      · rw[aC.1 ht]; exact ⟨aR _,aR _⟩
theorem QiF {T:List DTr}{m i:Nat}{f:DTr→DTr}(h:∀t∈T,t.1.length≤m∧t.2.length≤m)(hf:∀t,(f t).1.length≤t.1.length+1∧(f t).2.length≤t.2.length+1):∀t∈T.modify i f,t.1.length≤m+1∧t.2.length≤m+1:=fun t ht=>by
  obtain ⟨j,hj⟩:=aM.1 ht
  rw[cD] at hj
  cases hT:T[j]? with
  | none=>rw[hT] at hj; cases hj
  | some u=>
    rw[hT] at hj
    have hu:=h u (ap hT)
    have h1:=hf u
    have hj:some (if i=j then f u else u)=some t:=hj
    cases hj
    split <;> omega
theorem DBJ.st_ {p w m:Nat}{q:Int}(h:DBJ b p w m)(hq:0≤q∧q < (b.2.1.length:Int)):DBJ ((b.1.1,b.1.2.1,b.1.2.2.1,Qlr b.1.2.2.2 q),b.2.1,b.2.2) p w m:=by
  refine ⟨?_,h.tr,h.la,h.p0,h.pl,h.ws,h.inn⟩
  have hs:(⟨#[49]⟩:ByteArray).size=1:=rfl
  have h1:=h.st
  show (Qlr b.1.2.2.2 q).size=b.2.1.length
  unfold Qlr
  simp only[aN,aS,hs]
  omega
theorem DBJ.more {p w m p' w' m':Nat}(h:DBJ b p w m)(h1:p≤p')(h2:w≤w')(h3:m≤m'):DBJ b p' w' m':=⟨h.st,h.tr,h.la,h.p0,bw h.pl h1,bw h.ws h2,fun t ht=>⟨bw (h.inn t ht).1 h3,bw (h.inn t ht).2 h3⟩⟩
theorem DBJ.ar1_ {p w m:Nat}{q:Int}(h:DBJ b p w m):DBJ (ar1 q b text) p (w+1) (m+1):=by
  unfold ar1
  split
  · exact h.more (aO _) (by omega) (by omega)
  · have k := h.tr_ (word := Y2 text 0)
    exact ⟨k.st,(List.length_modify ..).trans k.tr,k.la,k.p0,k.pl,k.ws,QiF k.inn fun t=>⟨Nat.le_succ _,QbC _ _⟩⟩
theorem DBJ.ar2_ {p w m:Nat}{q:Int}(h:DBJ b p w m):DBJ (ar2 q b text) p (w+1) (m+1):=by
  unfold ar2
  split
  · exact h.more (aO _) (by omega) (by omega)
  · have k := h.tr_ (word := Y2 text 1)
    exact ⟨k.st,(List.length_modify ..).trans k.tr,k.la,k.p0,k.pl,k.ws,QiF k.inn fun t=>⟨QbC _ _,Nat.le_succ _⟩⟩
theorem Qnc {q:Int}:(ar1 q b text).2.1=b.2.1:=by unfold ar1; split; exact rfl; exact Qd0.2.2.2
theorem Qnt {q:Int}:(ar2 q b text).2.1=b.2.1:=by unfold ar2; split; exact rfl; exact Qd0.2.2.2
theorem DBJ.ar_ {p w m:Nat}(h:DBJ b p w m):DBJ (arV b text) (p+1) (w+2) (m+2):=by
  have k1:=h.pl_ (name:=Jg text)
  have k2:=k1.ar1_ (q:=plI b (Jg text)) (text:=text)
  have k3:=k2.ar2_ (q:=plI b (Jg text)) (text:=text)
  unfold arV
  dsimp only
  split
  · exact k3.st_ (by rw[Qnt,Qnc]; exact QiW)
  · exact k3
theorem DBJ.zero (G:List Qz):DBJ (((0,[]),G,[],ByteArray.empty),[],[]) 0 0 0:=⟨rfl,rfl,rfl,rfl,aO _,aO _,fun t h=>by cases h⟩
end
end Go.Proofs.YtfkmmpfdncopdaaGreat
namespace Go.Proofs.YtfkmmpfdncopdaaGreat
open Go.RowKit
set_option maxRecDepth 100000
set_option maxHeartbeats 4000000
def fbS:Zq:=((4,[([3],[0]),([0],[1]),([1],[2]),([2],[3])]),[(⟨#[97]⟩,1),(⟨#[98]⟩,2)],[(0,true),(1,true),(0,false),(1,false)],⟨#[48,48,48,49]⟩)
theorem QqO:Qr ⟨#[97]⟩ ⟨#[98]⟩ ⟨#[]⟩ ⟨#[97,43,62,98,43,32,98,43,62,97,45,32,97,45,62,98,45,32,42,98,45,62,97,43]⟩=fbS:=by decide+kernel
theorem QjC {x hi:Int}(h:0≤x∧x≤hi):Uy [x] hi:=by
  intro k hk
  have:k=0:=by simpa using hk
  subst this
  unfold RisAt
  simp
  omega
theorem Qi6 {c:UInt8}(h:ZZ 0 c.toNat):QbE ⟨#[c]⟩:=by
  refine ⟨fun k hk=> ?_,aO _,by show (1:Nat)≤6; omega⟩
  have h1:k < 1:=hk
  have:k=0:=by omega
  subst this
  exact h
theorem QpV:StgOk fbS:=by
  refine ⟨⟨⟨by decide,by decide⟩,by decide,fun t ht=> ?_⟩,⟨fun k hk x hx=> ?_,by decide,by decide⟩,rfl,fun l hl=> ?_,fun k hk h=> ?_,rfl⟩
  · simp only [fbS, aE, bW, or_false] at ht
    rcases ht with rfl | rfl | rfl | rfl <;> exact ⟨by simp,QjC (by show _∧_≤(4:Int) - 1; omega),QjC (by show _∧_≤(4:Int) - 1; omega)⟩
  · have h2 : k < 2 := hk
    rcases (show k=0∨k=1 by omega) with rfl | rfl
    · cases hx
      exact ⟨Qi6 (by unfold ZZ; decide),by decide,fun j y hj=>absurd hj (b8 j)⟩
    · cases hx
      refine ⟨Qi6 (by unfold ZZ; decide),by decide,fun j y hj hy=> ?_⟩
      have:j=0:=by omega
      subst this
      cases hy
      decide
  · simp only [fbS, aE, bW, or_false] at hl
    rcases hl with rfl | rfl | rfl | rfl <;> exact .inl (by decide)
  · have h4 : k < 4 := hk
    rcases (show k=0∨k=1∨k=2∨k=3 by omega) with rfl | rfl | rfl | rfl <;> first | exact .inl rfl | exact .inr rfl
theorem QqN [∀s,Decidable (StgOk s)]:(sgV fbS).2=true:=by
  have he:Qi fbS=(((Zr fbS).1.1,(Zr fbS).1.2.1),true):=if_pos ⟨QpV,by decide+kernel⟩
  obtain ⟨c,hc⟩:=b7.1 (show (goS (Zr fbS).1.1.length (Qv fbS.2.2.1 (Zr fbS).1.2.1) fbS.2.1.length 0 (List.replicate (Zr fbS).1.1.length ByteArray.empty)).isSome=true by decide+kernel)
  have h2:¬(4000:Int) < ((Zr fbS).1.2.1.length:Int):=by decide+kernel
  rw[JU (s:=fbS) (c:=c) (by rw[he]) (by rw[he]; exact h2) (by rw[he]; exact hc)]
end Go.Proofs.YtfkmmpfdncopdaaGreat
