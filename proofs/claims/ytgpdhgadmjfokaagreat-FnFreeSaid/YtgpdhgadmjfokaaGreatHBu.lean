/- Walks over abstract states: traces, the reference. -/
import Derived.Test.YtgpdhgadmjfokaaGreatHEe
import Derived.Test.YtgpdhgadmjfokaaGreatHAt
import Derived.Test.YtgpdhgadmjfokaaGreatHWv
import Derived.Test.YtgpdhgadmjfokaaGreatHUd
import Derived.Test.YtgpdhgadmjfokaaGreatHWk
import Derived.Test.YtgpdhgadmjfokaaGreatHVi
import Derived.Test.YtgpdhgadmjfokaaGreatHWp
import Derived.Test.YtgpdhgadmjfokaaGreatHWz
import Derived.Test.YtgpdhgadmjfokaaGreatHAk
import Derived.Test.YtgpdhgadmjfokaaGreatHStr
import Derived.Test.YtgpdhgadmjfokaaGreatProg
import Derived.KernelRfl
import Derived.Test.YtgpdhgadmjfokaaGreatHAl
import Derived.Test.YtgpdhgadmjfokaaGreatHAv
import Derived.Laws.Bits64b
set_option linter.unusedSimpArgs false
set_option linter.unusedVariables false
set_option linter.unusedSectionVars false
namespace Go.Proofs.YtgpdhgadmjfokaaGreat
open Go.RowKit
set_option maxRecDepth 100000
set_option maxHeartbeats 4000000
def Xc (l:List ByteArray)(s:ByteArray):Bool:=l.any fun y=>decide (s=y)
theorem QdS {l:List ByteArray}{s:ByteArray}:Xc l s=true↔s∈l:=by
  unfold Xc
  rw[bR]
  exact ⟨fun ⟨y,hy,e⟩=>by rw[ae e]; exact hy,fun h=>⟨s,h,aJ rfl⟩⟩
theorem QpM {l:List ByteArray}{s:ByteArray}(h:¬s∈l):Xc l s=false:=cj.2 fun e=>h (QdS.1 e)
section
variable {l:List ByteArray}{s y:ByteArray}{m:Int}
theorem QnB (hP:∀j:Nat,(j:Int) < m→∀y,l[j]? =some y→ltB y s=true)(hy:l[m.toNat]? =some y)(h:Op.bytesLess y.toList s.toList=true):∀j:Nat,(j:Int) < m+1→∀z,l[j]? =some z→ltB z s=true:=fun j hj z hz=>by
  by_cases e:(j:Int) < m
  · exact hP j e z hz
  · have : j = m.toNat := by omega
    subst this
    rw[hy] at hz; cases hz; exact h
theorem Qqk (hP:∀j:Nat,(j:Int) < m→∀y,l[j]? =some y→ltB y s=true)(h0:0≤m)(h1:m≤(l.length:Int))(h:∀y,l[m.toNat]? =some y→ltB y s=false∧y≠s):l.take m.toNat++[s]++l.drop m.toNat=Q7 ltB s l:=by
  rw[QdU (k:=m.toNat) (fun j hj z hz=>hP j (by omega) z hz) (by omega) h]; simp
end
theorem ZZ (l:List ByteArray)(s:ByteArray):FC Tryz.prog 145 [(false,[.dat (.sl 9 .str) l]),(false,[dS s])] [] 0 (QV (lB (Xc l s))):=by
 refine Qj Tryz.func145 rfl rfl Tryz.ntmps145 fun O_ hO w0_ N0_ X_ h0_ f0_=> ?_
 iterate 6 refine w_ ?_
 refine alL 7 fun hl1=> ?_
 iterate 4 refine w_ ?_
 refine lpK l.length (fun k=>∀j,j < k→∀y,l[j]? =some y→¬y=s) (fun k=>⟨[(1,lf (dS s)),(7,lf (.dat (.sl 9 .str) l)),(8,lI (l.length:Int)),(9,lI (k:Int))],[]⟩) ((fun j hj=>absurd hj (bc j))) ?_ fun k hk2 hno=> ?_
 · exact Wk.of [] rfl ⟨rfl,rfl,rfl,rfl,trivial⟩ trivial rfl rfl
 iterate 4 refine w_ ?_
 cases hb3:(decide ((k:Int) < (l.length:Int)))
 ·have hb3':=ab hb3
  refine w_ ?_
  refine Qi ?_
  refine (?_:AC _ _ _ _ _)
  iterate 3 refine w_ ?_
  refine Qb<|fqB hO ?_
  first | exact (QpM fun hm=>by obtain ⟨j,hj⟩:=aM.1 hm; exact hno j (by have:=(aj.1 hj).1; omega) s hj rfl).symm
 ·have hb3':=ae hb3
  iterate 5 refine w_ ?_
  obtain ⟨x4,hx5⟩:∃z,l[k]? =some z:=⟨_,aa (by omega)⟩
  iterate 9 refine w_ ?_
  cases hb6:(decide (x4=s))
  ·have hb6':=ab hb6
   refine w_ ?_
   refine AC.skip ?_
   refine (?_:AC _ _ _ _ _)
   iterate 3 refine w_ ?_
   refine Qd ?_
   refine lK_ ((Y5 hno hx5 (by assumption))) ?_
   exact Wk.of [] rfl ⟨rfl,rfl,rfl,rfl,trivial⟩ trivial rfl rfl
  ·have hb6':=ae hb6
   iterate 4 refine w_ ?_
   refine Qb<|fqB hO ?_
   exact (QdS.2 (by have:=ao hx5; simp_all)).symm
section
variable {c:DSg}[Decidable (SgOk c)]{h m mo:Int}{n:Nat}
end
section
variable {a b:QR}[∀s,Decidable (StgOk s)][∀c,Decidable (SgOk c)]{m:Int}{k:Nat}{s:ByteArray}
def tiV (a b:QR)[∀s,Decidable (StgOk s)][∀c,Decidable (SgOk c)](m:Int):Bool×Bool:=
  if (sgV a).2=true∧(sgV b).2=true∧(trV (sgV a).1 (-1) m).2=true∧(trV (sgV b).1 (-1) m).2=true then ((trV (sgV a).1 (-1) m).1.all fun s=>Xc (trV (sgV b).1 (-1) m).1 s,true) else (false,false)
end
end Go.Proofs.YtgpdhgadmjfokaaGreat
namespace Go.Proofs.YtgpdhgadmjfokaaGreat
open Go.RowKit
set_option maxRecDepth 100000
set_option maxHeartbeats 4000000
def kyL (B:DLv):List ByteArray:=B.map fun p=>p.1
section
variable {c:DSg}[Decidable (SgOk c)]{h m:Int}{n k:Nat}{M B Z:DLv}{out:List ByteArray}{z:ByteArray×List Int}
end
theorem Xx (s:List ByteArray)(v:ByteArray):FC Tryz.prog 262 [(false,[.dat (.sl 9 .str) s]),(false,[dS v])] [] 0 (QV (lI (Ze (fun y=>decide (v=y)) s))):=by
 refine Qj Tryz.func262 rfl rfl Tryz.ntmps262 fun O_ hO w0_ N0_ X_ h0_ f0_=> ?_
 iterate 6 refine w_ ?_
 refine alL 6 fun hl1=> ?_
 iterate 4 refine w_ ?_
 refine lpK s.length (fun k=>NoneTo (fun y=>decide (v=y)) s k) (fun k=>⟨[(0,lf (.dat (.sl 9 .str) s)),(1,lf (dS v)),(7,lI (s.length:Int)),(8,lI (k:Int))],[]⟩) (NoneTo.zero) ?_ fun k hk2 hno=> ?_
 · exact Wk.of [] rfl ⟨rfl,rfl,rfl,rfl,trivial⟩ trivial rfl rfl
 iterate 4 refine w_ ?_
 cases hb3:(decide ((k:Int) < (s.length:Int)))
 ·have hb3':=ab hb3
  refine w_ ?_
  refine Qi ?_
  refine (?_:AC _ _ _ _ _)
  iterate 3 refine w_ ?_
  refine Qb<|fqI hO ?_
  first | exact (hno.no (by omega)).symm
 ·have hb3':=ae hb3
  iterate 12 refine w_ ?_
  obtain ⟨x4,hx5⟩:∃z,s[k]? =some z:=⟨_,aa (by omega)⟩
  iterate 4 refine w_ ?_
  cases hb6:(decide (v=x4))
  ·have hb6':=ab hb6
   refine w_ ?_
   refine AC.skip ?_
   refine (?_:AC _ _ _ _ _)
   iterate 3 refine w_ ?_
   refine Qd ?_
   refine lK_ (hno.step hx5 (by assumption)) ?_
   exact Wk.of [] rfl ⟨rfl,rfl,rfl,rfl,trivial⟩ trivial rfl rfl
  ·have hb6':=ae hb6
   iterate 5 refine w_ ?_
   refine Qb<|fqI hO ?_
   exact (hno.at hx5 (by assumption)).symm
theorem Q5 (s:List ByteArray)(v:ByteArray):FC Tryz.prog 142 [(false,[.dat (.sl 9 .str) s]),(false,[dS v])] [] 0 (QV (lB (s.any (fun y=>decide (v=y))))):=by
 refine Qj Tryz.func142 rfl rfl Tryz.ntmps142 fun O_ hO w0_ N0_ X_ h0_ f0_=> ?_
 iterate 6 refine w_ ?_
 refine lc (dK (Xx s v) Qf1) ?_
 iterate 3 refine w_ ?_
 refine Qb<|fqB hO ?_
 exact XD _ _
section
variable {a b:QR}[∀s,Decidable (StgOk s)][∀c,Decidable (SgOk c)]{m:Int}
end
end Go.Proofs.YtgpdhgadmjfokaaGreat
namespace Go.Proofs.YtgpdhgadmjfokaaGreat
open Go.RowKit
set_option maxRecDepth 100000
set_option maxHeartbeats 4000000
def Qra (f:Hdr→List Int):Option (List Int)→List Hdr→List Hdr
  | _,[]=>[]
  | p,y :: l=>if p=some (f y) then Qra f p l else y :: Qra f (some (f y)) l
section
variable {f:Hdr→List Int}{vs zs:List Hdr}{m k:Nat}{x y:Hdr}{l:List (List Int)}{i j n:Int}
end
end Go.Proofs.YtgpdhgadmjfokaaGreat
namespace Go.Proofs.YtgpdhgadmjfokaaGreat
open Go.RowKit
set_option maxRecDepth 100000
set_option maxHeartbeats 4000000
theorem QbH {α:Type _}[DecidableEq α]{lt:α→α→Bool}(x:α):∀l:List α,(Q7 lt x l).length≤l.length+1
  | []=>aO _
  | y :: l=>by
    unfold Q7
    have:=QbH (lt:=lt) x l
    split
    · simp only[aq]; omega
    · split <;> simp
def shV (n:YD)(t u:Int):Bool:=((n.2[t.toNat]?).getD ([],[])).1.any fun z=>decide (z∈((n.2[u.toNat]?).getD ([],[])).1)
def Qsj (n:YD)(t:Int)(l:List Int):List (List Int):=(l.filter fun u=>decide (t < u)&& !shV n t u).map fun u=>[t,u]
def Qsm (n:YD)(t:Int)(l:List Int):List (List Int):=(l.filter fun u=> !shV n t u).map fun u=>[t,u]
def Qr5 (n:YD)(on l:List Int):List (List Int):=l.flatMap fun t=>Qsj n t on
def Qs7 (n:YD)(on:List Int)(k:Nat):List (List Int):=(List.range k).flatMap fun i=>Qsm n ((on[i]?).getD 0) (on.drop (i+1))
def QrT (n:YD)(ms:List ByteArray):List (List Int):=ms.flatMap fun mk=>Qr5 n (VT n mk) (VT n mk)
section
variable {n:YD}{k f i j:Nat}{mk:ByteArray}{t u:Int}{ts on l:List Int}{st:RS}{s:QR}{xt xu:QL}{ms:List ByteArray}{as_ bs:List (List Int)}
end
section
variable {vs vs2:List Hdr}{gf gf2 gj:Hdr→List Int}{l:List (List Int)}{m:Int}{x:List Int}
end
end Go.Proofs.YtgpdhgadmjfokaaGreat
namespace Go.Proofs.YtgpdhgadmjfokaaGreat
open Go.RowKit
set_option maxRecDepth 100000
set_option maxHeartbeats 4000000
section
variable {n:YD}{k i j m:Nat}{mk:ByteArray}{t u:Int}{on l:List Int}{s:QR}{xt xu:QL}{ms:List ByteArray}{as_:List (List Int)}
def QqR [∀s,Decidable (StgOk s)](s:QR):List (List Int):=ofG ltP (QrT s.1 (Qh s).1.1)
end
end Go.Proofs.YtgpdhgadmjfokaaGreat
namespace Go.Proofs.YtgpdhgadmjfokaaGreat
open Go.RowKit
set_option maxRecDepth 100000
set_option maxHeartbeats 4000000
section
variable [∀s,Decidable (StgOk s)]{s:QR}{o:Qs}
def Qp3 (s:QR)(o:Qs):Bool:=(Qlo s o).2&&((pfV s (Qlo s o).1).2&&(pfV s (Qlo s o).1).1)
def QrV (s:QR)(b:Int):Bool:=decide (0≤((s.2.2.1[b.toNat]?).getD (0,false)).1)&& !decide (((s.2.1[(((s.2.2.1[b.toNat]?).getD (0,false)).1).toNat]?).getD (ByteArray.empty,0)).2=1)
end
end Go.Proofs.YtgpdhgadmjfokaaGreat
namespace Go.Proofs.YtgpdhgadmjfokaaGreat
open Go.RowKit
set_option maxRecDepth 100000
set_option maxHeartbeats 4000000
section
variable [∀s,Decidable (StgOk s)]{s:QR}{P:List (List Int)}{a b:Int}{k i j n:Nat}{m:Bool}{ms:List Bool}{x:List Int}{os_:List Qs}
def QoK (s:QR)(a b:Int)(ms:List Bool):List Qs:=(ms.filter fun m=>QrV s b&&Qp3 s (a,b,m)).map fun m=>(a,b,m)
def QpY (s:QR)(P:List (List Int))(a b:Int):List Qs:=if (P.any fun p=>decide (p=[min a b,max a b]))=true∧a≠b then QoK s a b [false,true] else []
def Qsw (s:QR)(P:List (List Int))(a:Int)(i:Nat):List Qs:=(List.range i).flatMap fun b=>QpY s P a ((b:Nat):Int)
def Qst (s:QR)(P:List (List Int))(n k:Nat):List Qs:=(List.range k).flatMap fun a=>Qsw s P ((a:Nat):Int) n
theorem Qsu {l:List (List Int)}{y:List Int}(hx:l[k]? =some x)(h:¬x=y):((l.take k).any fun p=>decide (p=y))=((l.take (k+1)).any fun p=>decide (p=y)):=by rw[Q1 hx]; simp[h]
def QsE (s:QR)(c:Bool)(a b:Int)(ms:List Bool):List Qs:=if c=true∧a≠b then QoK s a b ms else []
def Qqq (s:QR):List Qs:=Qst s (QqR s) s.1.2.length s.1.2.length
end
section
variable [∀s,Decidable (StgOk s)]{s:QR}
def Qo4 (s:QR):List Qs:=if (sgV s).2=true then Qqq s else []
end
end Go.Proofs.YtgpdhgadmjfokaaGreat
namespace Go.Proofs.YtgpdhgadmjfokaaGreat
open Go.RowKit
set_option maxRecDepth 100000
set_option maxHeartbeats 4000000
def swp (p:List Int):List Int:=[(p[1]?).getD 0,(p[0]?).getD 0]
def Qtd (P:List (List Int))(n:Nat):List (List Int):=(List.range n).flatMap fun a:Nat=>((List.range n).filter fun b:Nat=>(P.any fun p=>decide (p=[min (a:Int) (b:Int),max (a:Int) (b:Int)]))&&decide ((a:Int)≠(b:Int))).map fun b:Nat=>[(a:Int),(b:Int)]
section
variable {P:List (List Int)}{n:Nat}{x:List Int}{ms:List ByteArray}{g:YD}
variable [∀s,Decidable (StgOk s)]{s:QR}
end
end Go.Proofs.YtgpdhgadmjfokaaGreat
namespace Go.Proofs.YtgpdhgadmjfokaaGreat
open Go.RowKit
set_option maxRecDepth 100000
set_option maxHeartbeats 4000000
section
variable [∀s,Decidable (StgOk s)]{s:QR}{l:List (List Int)}{p:List Int}{k i m:Nat}{a b:Int}
def Qs6 (s:QR)(l:List (List Int)):List Qs:=l.flatMap fun p=>QoK s ((p[0]?).getD 0) ((p[1]?).getD 0) [false,true]
end
end Go.Proofs.YtgpdhgadmjfokaaGreat
namespace Go.Proofs.YtgpdhgadmjfokaaGreat
open Go.RowKit
set_option maxRecDepth 100000
set_option maxHeartbeats 4000000
theorem Qio {n:Nat}{arcs:List DAr}:∀{f k:Nat} {c d:List ByteArray},goS n arcs f k c=some d→d.length=c.length
  | 0,_,c,d,h=>by rw[goS] at h; cases h; rfl
  | f+1,k,c,d,h=>by
    rw[goS] at h
    split at h
    · rw[Qio h,Qeo]
    · cases h
section
variable [∀s,Decidable (StgOk s)]{s:QR}{o x:Qs}{k:Nat}{l:List Qs}
theorem Qij (h:(sgV s).2=true):SgW (sgV s).1:=by
  unfold sgV at h ⊢
  split at h
  · rename_i h1
    rw[if_pos h1]
    obtain ⟨hs,hN1,hN2,_,hM,hL⟩:=ZW h1.1
    split at h
    · rename_i c hg
      have hl:=Qio hg
      rw[aB] at hl
      refine ⟨hs.sigs.2.2,⟨by show 1≤c.length; omega,by show c.length≤300; omega⟩, ?_, ?_⟩
      · show (Qv _ _).length ≤ _
        unfold Qv
        rw[aQ]; omega
      · intro a ha
        refine ⟨?_, ?_⟩
        · show InR c.length a
          rw[hl]; exact Ws hM a ha
        · obtain ⟨v, hv, rfl⟩ := b8.1 ha
          obtain ⟨_,⟨h2,h3⟩,_⟩:=hM v hv
          obtain ⟨l,hl2⟩:∃l,s.2.2.1[v.2.1.toNat]? =some l:=⟨_,aa (by omega)⟩
          have h4:=hs.labs l (ao hl2)
          show V5 (s.2.1.length:Int) ((QaY s.2.2.1 v.2.1).1,(QaY s.2.2.1 v.2.1).2)
          rw[QdR hl2]; exact h4
    · cases h
  · cases h
def ocG (s:QR)(o:Qs):DSg:=(sgV (Kg s o)).1
def oc1 (s:QR)(o:Qs):Int:=((QaQ (ocG s o)).length:Int)
def oc2 (s:QR)(o:Qs):Int:=((ocG s o).2.1.length:Int)
def ocB (s:QR)(o:Qs):Bool:=(Qo4 s).any fun y=>decide (o=y)
def ox1 (s:QR)(o:Qs):Int:=if ocB s o=true then oc1 s o else 0
def ox2 (s:QR)(o:Qs):Int:=if ocB s o=true then oc2 s o else 0
def Qp6 (s:QR)(a:Qs×Int×Int)(o:Qs):Qs×Int×Int:=
  if a.2.1 < 0∨oc1 s o < a.2.1∨(oc1 s o=a.2.1∧a.2.2 < oc2 s o) then (o,oc1 s o,oc2 s o) else a
def QlV (s:QR)(l:List Qs):Qs×Int×Int:=l.foldl (Qp6 s) ((0,0,false), -1,0)
def BeS (s:QR)(l:List Qs)(k:Nat)(b:Qs)(c t:Int):Prop:=QlV s (l.take k)=(b,c,t)
def BeI (s:QR)(l:List Qs)(k:Nat)(b:Qs)(c t:Int):Prop:=QlV s (l.take k)=(b,if k=0 then -1 else c,t)∧(k=0→c=0)
def boV (s:QR):Qs:=(QlV s (Qo4 s)).1
def boB (s:QR):Bool:=decide (0 < ((Qo4 s).length:Int))
end
end Go.Proofs.YtgpdhgadmjfokaaGreat
namespace Go.Proofs.YtgpdhgadmjfokaaGreat
open Go.RowKit
@[reducible] def Ex {X:Type} (Q:X→Prop) (pv:X→PV) (T:X→Tab):PV→Tab→Prop:=fun p T'=>∃x,Q x∧p=pv x∧T'=T x
section
variable {A:Amb}{P:Program}{s:St}{f:FuncId}{xs:List Operand}{tys:Array TypeId}{args:List (Bool×List LV)}{d:Nat}{ty:TypeId}{pos:String}{af:Array Edge}{g:Option (Nat×Bool)}{T:Tab}{k:Nat}
  {X:Type} {Qx:X→Prop} {pv:X→PV} {T':X→Tab} {ops:Array Oper} {l:List Oper} {Q:Exit→St→Prop}
theorem DoesT.callX (n:Nat)(ρ:List (Nat×Nat))(hc:FC P f args T k (Ex Qx pv T'))(hE:Qg P f)(ha:EvL A s xs (args.map fun c=>(c.1,c.2.map (LV.ren (rn ρ)))))(hT:HasE s ρ T)
    (hi:(XW (T.map fun p=>rn ρ p.1)&&Nat.blt d A.n)=true) (hB:∀x,(Ye (pv x) (T' x)&&XW ((T' x).map fun p=>sg ρ k n p.1)&&Qfl T (T' x) k)=true) (hfr:∀x,FrK s n k (Zw (T' x))) (hk0:A.k0≤n):
    DoesT A P ⟨some d, .call ⟨.value (.func f),xs.toArray,tys⟩,ty,pos,af,g⟩ s (fun s'=>∃x,Qx x∧s'=s.backP d (sg ρ k n) (T.map fun p=>rn ρ p.1) (pv x) (T' x)):=fun a w K Q r hK=>by
  obtain ⟨gh,r⟩:=r
  rw[aN] at hi
  obtain ⟨hi,hn⟩:=hi
  have hal:∀q,T.al q→s.tab.al (rn ρ q):=fun q ⟨e,h⟩=>⟨_,hT.get h⟩
  have hinj:∀q q',T.al q→T.al q'→rn ρ q=rn ρ q'→q=q':=fun q q' h1 h2 h=>V6 hi h1 h2 h
  have cx0:Cx T (gh.via (rn ρ)) w:=⟨fun q e h=>(EntR.ren.1 (r.cx.en _ _ (hT.get h))).mono (fun r' _ h'=>⟨hal r' h',rfl⟩) (fun g hg=>⟨hg,rfl⟩) rfl rfl fun _ _=>rfl,
    fun q q' h1 h2 hne=>r.cx.dj _ _ (hal q h1) (hal q' h2) fun h=>hne (hinj q q' h1 h2 h),fun q h=>r.cx.nd _ (hal q h),fun q h=>r.cx.no _ (hal q h),r.cx.nl⟩
  have hv:=(CmsR.ren.1 (ha.cms r)).mono (al':=T.al) (gh':=gh.via (rn ρ)) (w':=w) (fun q _ h=>⟨hal q h,rfl⟩) fun g hg=>⟨hg,rfl⟩
  refine UP hE rfl (Calls.mono (hc _ w _ cx0 hv) fun e w' he=> ?_)
  obtain ⟨v,pv',T2,gh',rfl,⟨x,hq,rfl,rfl⟩,cx,hp,fr,hkk⟩:=he
  have h2:=hB x
  simp only[aN] at h2
  refine hK _ _ _ ⟨x,hq,rfl⟩ (QeO n ρ r hT hi h2.1.1 h2.1.2 (fun q ⟨e,hq⟩ hk=> ?_) (fun q ⟨e,hq⟩ hk=>(hfr x).get q (Zd hq).1 hk) hk0 hn cx hp fr hkk)
  have:=aw.1 h2.2 q (Zd hq).1
  rw[show Nat.blt q k=true from cr hk] at this
  exact b7.1 (by simpa using this)
theorem Q6 (n:Nat)(ρ:List (Nat×Nat))(hc:FC P f args T k (Ex Qx pv T'))(hE:Qg P f)(ha:EvL A s xs (args.map fun c=>(c.1,c.2.map (LV.ren (rn ρ)))))(hT:HasE s ρ T)
    (hi:(XW (T.map fun p=>rn ρ p.1)&&Nat.blt d A.n)=true) (hB:∀x,(Ye (pv x) (T' x)&&XW ((T' x).map fun p=>sg ρ k n p.1)&&Qfl T (T' x) k)=true) (hfr:∀x,FrK s n k (Zw (T' x))) (hk0:A.k0≤n)
    (h:∀x,Qx x→AL A P ops l Q (s.backP d (sg ρ k n) (T.map fun p=>rn ρ p.1) (pv x) (T' x))):AL A P ops (⟨some d, .call ⟨.value (.func f),xs.toArray,tys⟩,ty,pos,af,none⟩ :: l) Q s:=
  Qlp rfl (DoesT.callX n ρ hc hE ha hT hi hB hfr hk0) fun s' ⟨x,hq,e⟩=>e▸h x hq
theorem QK {fn:Func}{s:St}(x:X)(ρ:List (Nat×Nat)){pv0:PV}(hq:Qx x)(h1:Res A P fn s pv0)(h0:pv0=(pv x).ren (rn ρ))(h2:HasE ⟨[],s.tab⟩ ρ (T' x))(h3:XW ((T' x).map fun x=>rn ρ x.1)=true)(h4:idB ρ k=true):fin A P fn (KE (Ex Qx pv T') k) .ret s:=
  H2 (pv x) (T' x) ρ (h0▸h1) h2 h3 h4 ⟨x,hq,rfl,rfl⟩
end
theorem FC.frozenX {P:Program}{f:FuncId}{args:List (Bool×List LV)}{X:Type}{Q:X→Prop}{pv:X→PV}{T:X→Tab}(h:FC P f args [] 0 (Ex Q pv T)):FC P f args [] 0 (Ex Q (fun x=>(pv x).thaw (T x)) (fun _=>[])):=fun gh w vs cx ha=>
  Calls.mono (h gh w vs cx ha) fun e' w' he=>by
    obtain ⟨v,pv',T',gh',rfl,⟨x,hq,rfl,rfl⟩,cx',hp,fr,_⟩:=he
    refine ⟨v,_,[],_,rfl,⟨x,hq,rfl,rfl⟩,XL Zq _ _ fun g hg=> ?_,hp.thaw cx',⟨fr.gw,fr.kp,fun g hg=> ?_,fun q hq=>absurd hq (Zq q)⟩,fun q hq=>absurd hq (by omega)⟩
    · rcases hg with hg | ⟨q, hq, hg⟩
      · exact cx'.nl g hg
      · exact cx'.lt hq g hg
    · rcases hg with hg | ⟨q, hq, hg⟩
      · exact fr.nn g hg
      · rcases fr.ox q hq g hg with h | ⟨q', h, _⟩
        · exact .inr (.inl h)
        · exact absurd h (Zq q')
section
variable {A:Amb}{P:Program}{s:St}{f:FuncId}{xs:List Operand}{tys:Array TypeId}{args:List (Bool×List LV)}{d:Nat}{ty T:TypeId}{pos:String}{af:Array Edge}{g:Option (Nat×Bool)}
  {X:Type} {Qx:X→Prop} {pv:X→PV} {ops:Array Oper} {l:List Oper} {Q:Exit→St→Prop} {x:Operand}
end
end Go.Proofs.YtgpdhgadmjfokaaGreat
namespace Go.Proofs.YtgpdhgadmjfokaaGreat
open Go.RowKit
structure Opens (t t':Ty) (E:TypeId) (e:Ty) where
  sub:t.Den→Hdr→t'.Den
  get:t'.Den→Hdr
  put:t'.Den→List e.Den→t.Den
  val:t.Den→List e.Den
  wd:t'.wd=t.wd
  h1:∀x z,get (sub x z)=z
  h2:∀x z,put (sub x z) (val x)=x
  own:∀{w:World} {fp:List Nat} {cs:List Value} {x:t.Den},Own t w fp cs x→∃z fg fi,fp.Perm (fg++fi)∧Own t' w fg cs (sub x z)∧Own (.sl E e) w fi [hdV z] (val x)
@[reducible] def QoZ (E:TypeId) (e:Ty):Opens (.sl E e) .vl E e where
  sub:=fun _ z=>z
  get:=fun z=>z
  put:=fun _ y=>y
  val:=fun x=>x
  wd:=rfl
  h1:=fun _ _=>rfl
  h2:=fun _ _=>rfl
  own:=fun h=>by
    obtain ⟨z,rfl⟩:=QbJ h
    exact ⟨z,[],_,List.Perm.refl _,⟨rfl,rfl⟩,h⟩
@[reducible] def QpT (a:Ty) {b b':Ty} {E:TypeId} {e:Ty} (o:Opens b b' E e):Opens (.pr a b) (.pr a b') E e where
  sub:=fun x z=>(x.1,o.sub x.2 z)
  get:=fun y=>o.get y.2
  put:=fun y l=>(y.1,o.put y.2 l)
  val:=fun x=>o.val x.2
  wd:=by show a.wd+b'.wd=a.wd+b.wd; rw[o.wd]
  h1:=fun x z=>o.h1 x.2 z
  h2:=fun x z=>Prod.ext rfl (o.h2 x.2 z)
  own:=fun h=>by
    obtain ⟨f1,f2,l,r,rfl,rfl,k1,k2⟩:=h
    obtain ⟨z,fg,fi,p,q1,q2⟩:=o.own k2
    exact ⟨z,f1++fg,fi,by rw[aS]; exact p.append_left f1,⟨f1,fg,l,r,rfl,rfl,k1,q1⟩,q2⟩
@[reducible] def QpS (b:Ty) {a a':Ty} {E:TypeId} {e:Ty} (o:Opens a a' E e):Opens (.pr a b) (.pr a' b) E e where
  sub:=fun x z=>(o.sub x.1 z,x.2)
  get:=fun y=>o.get y.1
  put:=fun y l=>(o.put y.1 l,y.2)
  val:=fun x=>o.val x.1
  wd:=by show a'.wd+b.wd=a.wd+b.wd; rw[o.wd]
  h1:=fun x z=>o.h1 x.1 z
  h2:=fun x z=>Prod.ext (o.h2 x.1 z) rfl
  own:=fun h=>by
    obtain ⟨f1,f2,l,r,rfl,rfl,k1,k2⟩:=h
    obtain ⟨z,fg,fi,p,q1,q2⟩:=o.own k1
    refine ⟨z,fg++f2,fi,(p.append_right f2).trans ?_,⟨fg,f2,l,r,rfl,rfl,q1,k2⟩,q2⟩
    rw[aS,aS]
    exact (List.perm_append_comm).append_left fg
section
variable {t t' e:Ty}{E E':TypeId}{w:World}
theorem Opens.list (o:Opens t t' E' e):∀{xs:List t.Den} {fp:List Nat} {cs:List Value},OwnL (Own t w) fp cs xs→
    ∃(ys:List t'.Den) (fg fi:List Nat),fp.Perm (fg++fi)∧ys.length=xs.length∧OwnL (Own t' w) fg cs ys∧OwnL (Own (.sl E' e) w) fi ((ys.map o.get).map hdV) ((ys.map o.get).map (rdF E' e w))∧(ys.map fun y=>o.put y (rdF E' e w (o.get y)))=xs
  | [],fp,cs,h=>⟨[],[],[],by rw[h.1]; exact List.Perm.refl _,rfl,⟨rfl,h.2⟩,⟨rfl,rfl⟩,rfl⟩
  | x :: xs,fp,cs,h=>by
    obtain ⟨f1,f2,c1,c2,rfl,rfl,h3,h4⟩:=h
    obtain ⟨z,fg1,fi1,p1,a1,b1⟩:=o.own h3
    obtain ⟨ys,fg,fi,p,hl,k1,k2,k3⟩:=Opens.list o h4
    refine ⟨o.sub x z :: ys,fg1++fg,fi1++fi,(p1.append p).trans ?_,by rw[aq,hl,aq],⟨fg1,fg,c1,c2,rfl,rfl,a1,k1⟩, ?_, ?_⟩
    · rw [aS, aS]
      exact List.Perm.append_left fg1 (List.perm_append_comm_assoc fi1 fg fi)
    · rw [aZ, o.h1]
      exact ⟨fi1,fi,[hdV z],_,rfl,rfl,by rw[QaV b1.rep]; exact b1,k2⟩
    · rw[aZ,k3,o.h1,QaV b1.rep,o.h2]
theorem Opens.arr (o:Opens t t' E' e){xs:List t.Den}{fp:List Nat}{v:Value}(h:Own (.sl E t) w fp [v] xs):
    ∃(ys:List t'.Den) (f:Hdr→List e.Den) (fg fi:List Nat),fp.Perm (fg++fi)∧Own (.sl E t') w fg [v] ys∧OwnL (Own (.sl E' e) w) fi ((ys.map o.get).map hdV) ((ys.map o.get).map f)∧(ys.map fun y=>o.put y (f (o.get y)))=xs∧f none=[]:=by
  rcases h with ⟨rfl,h,rfl⟩ | ⟨g,cap,cur,fps,rfl,h1,h2,h3,h4,h5,h6⟩
  · exact ⟨[],fun _=>[],[],[],List.Perm.refl _, .inl ⟨rfl,h,rfl⟩,⟨rfl,rfl⟩,rfl,rfl⟩
  · obtain ⟨ys, fg, fi, p, hl, k1, k2, k3⟩ := o.list h6
    refine ⟨ys,rdF E' e w,g :: fg,fi,p.cons g, .inr ⟨g,cap,cur,fg,rfl,by rw[hl]; exact h1,h2,by rw[hl]; exact h3,h4,by rw[o.wd]; exact h5, ?_⟩,k2,k3,QaV (x:=[]) (Own.rep (fp:=[]) (.inl ⟨rfl,rfl,rfl⟩))⟩
    rw[hl,o.wd]; exact k1
end
section
variable {A:Amb}{P:Program}{s:St}{Q:Exit→St→Prop}{c:Code}
theorem Rg.take (t:Nat){p:Nat}{E:TypeId}{e:Ty}{vs:List Hdr}{f:Hdr→List e.Den}{z:Hdr}{gh:Gh}{a:Act}{w:World}(hp:s.tab.ent p=some (.pl true (.sl E e) vs f))(hz:z∈vs)(hfr:Fresh s t)(hk:A.k0≤t)(r:Rg A s gh a w):
    ∃gh':Gh,gh'.h t=hdV z∧(∀u,u≠t→gh'.h u=gh.h u)∧Rg A ⟨s.tm,(t,some (.arr E e (f z))) :: (p,none) :: s.tab⟩ gh' a w:=by
  have hpa:s.tab.al p:=⟨_,hp⟩
  have hne:t≠p:=fun h=>hfr.al (h▸hpa)
  obtain ⟨_,h3⟩:=r.cx.en p _ hp
  obtain ⟨fv,m1,m2⟩:=QaC (List.singleton_sublist.2 hz) h3
  obtain ⟨f1,f2,c1,c2,e1,e2,k1,k2⟩:=m2
  have e3:f2=[]:=k2.1
  have e4:c2=[]:=k2.2
  rw[e3,bA] at e1
  rw[e4,bA] at e2
  subst e1
  rw[← e2] at k1
  have hO:Own (.sl E e) w fv [hdV z] (f z):=k1
  have mi:∀g∈fv,g∈gh.f p:=fun g hg=>m1.subset hg
  have nv:fv.Nodup:=m1.nodup (r.cx.nd p hpa)
  have hal:∀u,Tab.al ((t,some (.arr E e (f z))) :: (p,none) :: s.tab) u→u=t∨(u≠t∧u≠p∧s.tab.al u):=fun u ⟨x,hx⟩=>by
    by_cases e1:u=t
    · exact .inl e1
    · rw [Qf, if_neg e1, Qf] at hx
      by_cases e2:u=p
      · rw[if_pos e2] at hx; cases hx
      · rw[if_neg e2] at hx; exact .inr ⟨e1,e2,_,hx⟩
  let gh':Gh:=⟨fun u=>if u=t then hdV z else gh.h u,fun u=>if u=t then fv else gh.f u,gh.N⟩
  have ft:gh'.f t=fv:=if_pos rfl
  have fo:∀u,u≠t→gh'.f u=gh.f u:=fun u e1=>if_neg e1
  have ho:∀u,u≠t→gh'.h u=gh.h u:=fun u e1=>if_neg e1
  refine ⟨gh',if_pos rfl,ho,r.step ⟨fun u x hx=> ?_,fun u u' hu hu' hn g hg hg'=> ?_,fun u hu=> ?_,fun u hu g hg hgN=> ?_,r.cx.nl⟩ (fun u hu=> ?_) (fun g h=>⟨h,rfl⟩) (Zt w) (fun _ _ _=>rfl) (fun g hgN=> .inl hgN) fun u hu g hg=> ?_⟩
  · rw [Qf] at hx
    by_cases e1:u=t
    · rw [if_pos e1] at hx
      cases hx
      show Own (.sl E e) w (gh'.f u) [gh'.h u] (f z)
      rw[e1,ft,show gh'.h t=hdV z from if_pos rfl]
      exact hO
    · rw [if_neg e1, Qf] at hx
      by_cases e2:u=p
      · rw[if_pos e2] at hx; cases hx
      · rw [if_neg e2] at hx
        refine (r.cx.en u x hx).mono (fun r' hr' ha=> ?_) (fun g h=>⟨h,rfl⟩) (ho u e1) (fo u e1) fun _ _=>rfl
        have e3:r'≠t:=fun h=>hfr.en u x hx (h▸hr')
        rcases hal r' ha with h | ⟨_,_,h⟩
        · exact absurd h e3
        · exact ⟨h,ho r' e3⟩
  · rcases hal u hu with e1 | ⟨e1, b1, a1⟩
    · rcases hal u' hu' with e2 | ⟨e2, b2, a2⟩
      · exact hn (e1.trans e2.symm)
      · rw[e1,ft] at hg; rw[fo u' e2] at hg'; exact r.cx.dj p u' hpa a2 (fun h=>b2 h.symm) g (mi g hg) hg'
    · rcases hal u' hu' with e2 | ⟨e2, b2, a2⟩
      · rw[e2,ft] at hg'; rw[fo u e1] at hg; exact r.cx.dj p u hpa a1 (fun h=>b1 h.symm) g (mi g hg') hg
      · rw[fo u e1] at hg; rw[fo u' e2] at hg'; exact r.cx.dj u u' a1 a2 hn g hg hg'
  · rcases hal u hu with e1 | ⟨e1, b1, a1⟩
    · rw[e1,ft]; exact nv
    · rw[fo u e1]; exact r.cx.nd u a1
  · rcases hal u hu with e1 | ⟨e1, b1, a1⟩
    · rw[e1,ft] at hg; exact r.cx.no p hpa g (mi g hg) hgN
    · rw[fo u e1] at hg; exact r.cx.no u a1 g hg hgN
  · rcases hal u hu with e1 | ⟨e1, b1, a1⟩
    · rw[e1]; exact .inr ⟨hfr,hk⟩
    · exact .inl ⟨a1,ho u e1,fun _=>rfl⟩
  · rcases hal u hu with e1 | ⟨e1, b1, a1⟩
    · rw[e1,ft] at hg; exact .inr ⟨p,hpa,mi g hg⟩
    · rw[fo u e1] at hg; exact .inr ⟨u,a1,hg⟩
end
section
variable {A:Amb}{P:Program}{s:St}{d:Nat}{ty T:TypeId}{pos:String}{af:Array Edge}{g:Option (Nat×Bool)}{x:Operand}
def ThP (s:St):List LV→List LV→Prop
  | [],ls'=>ls'=[]
  | l :: ls,ls'=>∃l' r,ls'=l' :: r∧(l=l'∨(∃q E e xs,l= .ref q∧s.tab.ent q=some (.arr E e xs)∧l'= .dat (.sl E e) xs)∨∃(p:Nat) (E:TypeId) (e:Ty) (vs:List Hdr) (f:Hdr→List e.Den) (z:Hdr),l= .dat .vl z∧s.tab.ent p=some (.pl true (.sl E e) vs f)∧z∈vs∧l'= .dat (.sl E e) (f z))∧ThP s ls r
end
def QrF:List LV→List LV→Prop
  | [],cs'=>cs'=[]
  | l :: ls,cs'=>∃l' r,cs'=l' :: r∧(l=l'∨(l= .val (.slice none 0 0)∧l'= .dat .vl none))∧QrF ls r
end Go.Proofs.YtgpdhgadmjfokaaGreat
namespace Go.Proofs.YtgpdhgadmjfokaaGreat
open Go.RowKit
set_option maxRecDepth 100000
set_option maxHeartbeats 4000000
section
variable {I S C A:Type}
@[reducible] def dC (g1:Hdr→S) (g2:Hdr→C) (g3:Hdr→A) (y:I×Hdr×Hdr×Hdr):I×S×C×A:=(y.1,g1 y.2.1,g2 y.2.2.1,g3 y.2.2.2)
variable {xs:List (I×S×C×A)}{y1:List (I×Hdr×C×A)}{y2:List (I×Hdr×Hdr×A)}{y3:List (I×Hdr×Hdr×Hdr)}{g1:Hdr→S}{g2:Hdr→C}{g3:Hdr→A}{v1 v2 v3:List Hdr}
theorem QsG (h1:(y1.map fun y=>(y.1,g1 y.2.1,y.2.2))=xs)(h2:(y2.map fun y=>(y.1,y.2.1,g2 y.2.2.1,y.2.2.2))=y1)(h3:(y3.map fun y=>(y.1,y.2.1,y.2.2.1,g3 y.2.2.2))=y2):y3.map (dC g1 g2 g3)=xs:=by
  subst h1 h2 h3
  simp[cY,Function.comp_def]
end
section
variable [∀c,Decidable (SgOk c)][∀s,Decidable (XV s)]
def QmG:Nat→DSg→List Yq→DSg×List Yq
  | 0,c,l=>(c,l)
  | f+1,c,l=>if 0 < (QaQ c).length∧(Qau c (QjI c)).isSome=true∧Qp0 c (QjI c) < ((QaQ c).length:Int) then QmG f (Qqz c (QjI c)).2 (l++[Qn0 c (QjI c)]) else (c,l)
def Qta (c:DSg):DSg×List Yq×Bool:=if SgOk c∧(QaQ (QmG 2 c []).1).length=0 then ((QmG 2 c []).1,(QmG 2 c []).2,true) else (Um,[],false)
variable {c og:DSg}{il:List Yq}{n:Nat}{x:Yq}
end
end Go.Proofs.YtgpdhgadmjfokaaGreat
namespace Go.Proofs.YtgpdhgadmjfokaaGreat
open Go.RowKit
set_option maxRecDepth 100000
set_option maxHeartbeats 4000000
def spS (s:ByteArray)(b:UInt8):Nat→List ByteArray×Int
  | 0=>([],0)
  | i+1=>if s[i]? =some b then ((spS s b i).1++[s.extract (spS s b i).2.toNat i],(i:Int)+1) else spS s b i
def Zv (s:ByteArray)(b:UInt8):List ByteArray:=(spS s b s.size).1++[s.extract (spS s b s.size).2.toNat s.size]
section
variable {s:ByteArray}{b c:UInt8}{i:Nat}
theorem Qnu (h:s[i]? =some c)(e:c=b):((spS s b i).1++[s.extract (spS s b i).2.toNat i],(i:Int)+1)=spS s b (i+1):=by rw[spS,if_pos (by rw[h,e])]
theorem QoE (h:s[i]? =some c)(e:¬c=b):spS s b i=spS s b (i+1):=by rw[spS,if_neg (by rw[h]; simpa using e)]
theorem Qig:0≤(spS s b i).2∧(spS s b i).2≤(i:Int)∧(spS s b i).1.length≤i:=by
  induction i with
  | zero=>exact ⟨d9 _,d9 _,aO _⟩
  | succ i ih=>
    rw[spS]
    split
    · refine ⟨by show (0 : Int) ≤ (i : Int) + 1; omega, by show ((i : Int) + 1) ≤ ((i + 1 : Nat) : Int); omega, ?_⟩
      rw[ak,aq,aE]; omega
    · obtain ⟨h1,h2,h3⟩:=ih; exact ⟨h1,by omega,by omega⟩
theorem QiV:(Zv s b).length≤s.size+1:=by
  unfold Zv
  have:=Qig (s:=s) (b:=b) (i:=s.size)
  rw[ak,aq,aE]; omega
end
abbrev DTr:=List Int×List Int
abbrev DB:=QR×List ByteArray×List ByteArray
def b0 (t:ByteArray):UInt8:=(t[0]?).getD 0
def bZ (t:ByteArray):UInt8:=(t[t.size - 1]?).getD 0
def UZ (l:List ByteArray)(x:ByteArray):Bool:=l.any fun y=>decide (y=x)
def atB (l:List ByteArray)(x:ByteArray):Int:=if UZ l x=true then Ze (fun y=>decide (y=x)) l else (l.length:Int)
def plV (b:DB)(name:ByteArray):DB:=if UZ b.2.1 name=true then b else (((b.1.1.1+1,b.1.1.2),b.1.2.1,b.1.2.2.1,b.1.2.2.2++(⟨#[48]⟩:ByteArray)),b.2.1++[name],b.2.2)
def plI (b:DB)(name:ByteArray):Int:=atB b.2.1 name
def K4 (word:ByteArray):ByteArray:=((Zv word 47)[0]?).getD ByteArray.empty
def Qg5 (G:List Qz)(word:ByteArray):Zu:=if b0 (K4 word)=126 then (-1,false) else (Ze (fun g=>decide (g.1=(K4 word).extract 0 ((K4 word).size - 1))) G,decide (bZ (K4 word)=43))
def Zi (b:DB)(word:ByteArray):DB:=if UZ b.2.2 word=true then b else (((b.1.1.1,b.1.1.2++[([],[])]),b.1.2.1,b.1.2.2.1++[Qg5 b.1.2.1 word],b.1.2.2.2),b.2.1,b.2.2++[word])
def trI (b:DB)(word:ByteArray):Int:=atB b.2.2 word
def U3 (text:ByteArray):ByteArray:=if b0 text=42 then text.extract 1 text.size else text
def YR (text:ByteArray)(k:Nat):ByteArray:=((Zv (U3 text) 62)[k]?).getD ByteArray.empty
def Jn (text:ByteArray):ByteArray:=if b0 (YR text 1)=95 then YR text 1 else if b0 (YR text 0)=95 then YR text 0 else U3 text
def Qbj (T:List DTr)(t p:Int):List DTr:=T.modify t.toNat fun x=>(x.1,Q7 ltI p x.2)
def QaH (T:List DTr)(t p:Int):List DTr:=T.modify t.toNat fun x=>(Q7 ltI p x.1,x.2)
def ar1 (p:Int)(b:DB)(text:ByteArray):DB:=if b0 (YR text 0)=95 then b else
  let c:=Zi b (YR text 0); (((c.1.1.1,Qbj c.1.1.2 (trI b (YR text 0)) p),c.1.2.1,c.1.2.2.1,c.1.2.2.2),c.2.1,c.2.2)
def ar2 (p:Int)(b:DB)(text:ByteArray):DB:=if b0 (YR text 1)=95 then b else
  let c:=Zi b (YR text 1); (((c.1.1.1,QaH c.1.1.2 (trI b (YR text 1)) p),c.1.2.1,c.1.2.2.1,c.1.2.2.2),c.2.1,c.2.2)
def Qk8 (s:ByteArray)(p:Int):ByteArray:=s.extract 0 p.toNat++(⟨#[49]⟩:ByteArray)++s.extract (p+1).toNat s.size
def arV (b:DB)(text:ByteArray):DB:=
  let p:=plI b (Jn text)
  let c:=ar2 p (ar1 p (plV b (Jn text)) text) text
  if b0 text=42 then ((c.1.1,c.1.2.1,c.1.2.2.1,Qk8 c.1.2.2.2 p),c.2.1,c.2.2) else c
def sgN (names:ByteArray)(kd:Int)(i:Nat):List Qz:=(List.range i).map fun j=>(names.extract j (j+1),kd)
def sgA:List ByteArray→Int→List Qz
  | [],_=>[]
  | n :: l,k=>sgN n k n.size++sgA l (k+1)
def buG (ins outs inner:ByteArray):List Qz:=sgA [ins,outs,inner] 1
def buB (G:List Qz)(arcs:ByteArray):DB:=(Zv arcs 32).foldl arV (((0,[]),G,[],ByteArray.empty),[],[])
def Qq (ins outs inner arcs:ByteArray):QR:=(buB (buG ins outs inner) arcs).1
def okW (w:ByteArray):Bool:=decide (1≤w.size)&&(decide (b0 w=95)||decide (1≤(K4 w).size))
def okA (t:ByteArray):Bool:=decide (1≤t.size)&&(decide (2≤(Zv (U3 t) 62).length)&&(okW (YR t 0)&&okW (YR t 1)))
section
variable {l:List ByteArray}{x name word text:ByteArray}{b c:DB}{G:List Qz}{n k:Nat}
theorem Qna {α:Type _}{f:α→Bool}{l:List α}(h:l.any f=true):0≤Ze f l∧Ze f l < (l.length:Int):=by
  have h1:=XD f l
  rw[h,aU] at h1
  refine ⟨h1, ?_⟩
  unfold Ze at*
  cases hf:l.findIdx? f with
  | none=>rw[hf] at h1; simp at h1
  | some i=>
    have:=(bT.1 hf).1
    simpa using this
theorem Qle (h:UZ l x=true):0≤atB l x∧atB l x < (l.length:Int):=by
  unfold atB; rw[if_pos h]; exact Qna h
theorem Jj (h:UZ l x=false):atB l x=(l.length:Int):=if_neg (by rw[h]; decide)
theorem Ql7 (hn:NoneTo (fun y=>decide (y=x)) l k){y:ByteArray}(hx:l[k]? =some y)(e:y=x):(k:Int)=atB l x:=by
  unfold atB
  have h1:UZ l x=true:=QlM hx (aJ e)
  rw[if_pos h1,hn.at hx (aJ e)]
theorem Yt {y:ByteArray}(hx:l[k]? =some y)(e:y=x):UZ l x=true:=QlM hx (aJ e)
theorem ZT (hn:NoneTo (fun y=>decide (y=x)) l k)(hk:l.length≤k):UZ l x=false:=hn.any_no hk
theorem Vq (h:UZ b.2.1 name=true):plV b name=b:=if_pos h
theorem X4 (h:UZ b.2.1 name=false):plV b name=(((b.1.1.1+1,b.1.1.2),b.1.2.1,b.1.2.2.1,b.1.2.2.2++(⟨#[48]⟩:ByteArray)),b.2.1++[name],b.2.2):=if_neg (by rw[h]; decide)
theorem X5 (h:UZ b.2.2 word=true):Zi b word=b:=if_pos h
theorem ZP (h:UZ b.2.2 word=false):Zi b word=(((b.1.1.1,b.1.1.2++[([],[])]),b.1.2.1,b.1.2.2.1++[Qg5 b.1.2.1 word],b.1.2.2.2),b.2.1,b.2.2++[word]):=if_neg (by rw[h]; decide)
structure DBJ (b:DB) (p w m:Nat):Prop where
  st:b.1.2.2.2.size=b.2.1.length
  tr:b.1.1.2.length=b.2.2.length
  la:b.1.2.2.1.length=b.2.2.length
  p0:b.1.1.1=(b.2.1.length:Int)
  pl:b.2.1.length≤p
  ws:b.2.2.length≤w
  inn:∀t∈b.1.1.2,t.1.length≤m∧t.2.length≤m
theorem QiR:0≤plI b name∧plI b name < ((plV b name).2.1.length:Int):=by
  unfold plI
  cases h:UZ b.2.1 name with
  | true=>rw[Vq h]; exact Qle h
  | false=>rw[X4 h,Jj h,ak]; simp only[aq,aE]; omega
theorem QiM:0≤trI b word∧trI b word < ((Zi b word).2.2.length:Int):=by
  unfold trI
  cases h:UZ b.2.2 word with
  | true=>rw[X5 h]; exact Qle h
  | false=>rw[ZP h,Jj h,ak]; simp only[aq,aE]; omega
theorem QcO:(Zi b word).1.1.1=b.1.1.1∧(Zi b word).1.2.1=b.1.2.1∧(Zi b word).1.2.2.2=b.1.2.2.2∧(Zi b word).2.1=b.2.1:=by unfold Zi; split <;> exact ⟨rfl,rfl,rfl,rfl⟩
theorem DBJ.pl_ {p w m:Nat}(h:DBJ b p w m):DBJ (plV b name) (p+1) w m:=by
  cases hi:UZ b.2.1 name with
  | true=>rw[Vq hi]; exact ⟨h.st,h.tr,h.la,h.p0,cJ h.pl,h.ws,h.inn⟩
  | false=>
    rw[X4 hi]
    have hs:(⟨#[48]⟩:ByteArray).size=1:=rfl
    refine ⟨?_,h.tr,h.la, ?_, ?_,h.ws,h.inn⟩
    · show (b.1.2.2.2 ++ (⟨#[48]⟩ : ByteArray)).size = (b.2.1 ++ [name]).length
      rw[aK,ak,h.st,hs]; rfl
    · show b.1.1.1 + 1 = ((b.2.1 ++ [name]).length : Int)
      rw[ak,h.p0]; simp
    · show (b.2.1 ++ [name]).length ≤ p + 1
      rw[ak]; have:=h.pl; simp only[aq,aE]; omega
theorem DBJ.tr_ {p w m:Nat}(h:DBJ b p w m):DBJ (Zi b word) p (w+1) m:=by
  cases hi:UZ b.2.2 word with
  | true=>rw[X5 hi]; exact ⟨h.st,h.tr,h.la,h.p0,h.pl,cJ h.ws,h.inn⟩
  | false=>
    rw[ZP hi]
    refine ⟨h.st, ?_, ?_,h.p0,h.pl, ?_, ?_⟩
    · show (b.1.1.2 ++ [([], [])]).length = (b.2.2 ++ [word]).length
      rw[ak,ak,h.tr]; rfl
    · show (b.1.2.2.1 ++ [Qg5 b.1.2.1 word]).length = (b.2.2 ++ [word]).length
      rw[ak,ak,h.la]; rfl
    · show (b.2.2 ++ [word]).length ≤ w + 1
      rw[ak]; have:=h.ws; simp only[aq,aE]; omega
    · intro t ht
      rcases aG.1 ht with ht | ht
      · exact h.inn t ht
      · rw[aC.1 ht]; exact ⟨aT _,aT _⟩
theorem Qh2 {T:List DTr}{m i:Nat}{f:DTr→DTr}(h:∀t∈T,t.1.length≤m∧t.2.length≤m)(hf:∀t,(f t).1.length≤t.1.length+1∧(f t).2.length≤t.2.length+1):∀t∈T.modify i f,t.1.length≤m+1∧t.2.length≤m+1:=fun t ht=>by
  obtain ⟨j,hj⟩:=aM.1 ht
  rw[cA] at hj
  cases hT:T[j]? with
  | none=>rw[hT] at hj; cases hj
  | some u=>
    rw[hT] at hj
    have hu:=h u (ao hT)
    have h1:=hf u
    have hj:some (if i=j then f u else u)=some t:=hj
    cases hj
    split <;> omega
theorem DBJ.st_ {p w m:Nat}{q:Int}(h:DBJ b p w m)(hq:0≤q∧q < (b.2.1.length:Int)):DBJ ((b.1.1,b.1.2.1,b.1.2.2.1,Qk8 b.1.2.2.2 q),b.2.1,b.2.2) p w m:=by
  refine ⟨?_,h.tr,h.la,h.p0,h.pl,h.ws,h.inn⟩
  have hs:(⟨#[49]⟩:ByteArray).size=1:=rfl
  have h1:=h.st
  show (Qk8 b.1.2.2.2 q).size=b.2.1.length
  unfold Qk8
  simp only[aK,aL,hs]
  omega
theorem DBJ.more {p w m p' w' m':Nat}(h:DBJ b p w m)(h1:p≤p')(h2:w≤w')(h3:m≤m'):DBJ b p' w' m':=⟨h.st,h.tr,h.la,h.p0,bn h.pl h1,bn h.ws h2,fun t ht=>⟨bn (h.inn t ht).1 h3,bn (h.inn t ht).2 h3⟩⟩
theorem DBJ.ar1_ {p w m:Nat}{q:Int}(h:DBJ b p w m):DBJ (ar1 q b text) p (w+1) (m+1):=by
  unfold ar1
  split
  · exact h.more (aO _) (by omega) (by omega)
  · have k := h.tr_ (word := YR text 0)
    exact ⟨k.st,(List.length_modify ..).trans k.tr,k.la,k.p0,k.pl,k.ws,Qh2 k.inn fun t=>⟨Nat.le_succ _,QbH _ _⟩⟩
theorem DBJ.ar2_ {p w m:Nat}{q:Int}(h:DBJ b p w m):DBJ (ar2 q b text) p (w+1) (m+1):=by
  unfold ar2
  split
  · exact h.more (aO _) (by omega) (by omega)
  · have k := h.tr_ (word := YR text 1)
    exact ⟨k.st,(List.length_modify ..).trans k.tr,k.la,k.p0,k.pl,k.ws,Qh2 k.inn fun t=>⟨QbH _ _,Nat.le_succ _⟩⟩
theorem Qkj {q:Int}:(ar1 q b text).2.1=b.2.1:=by unfold ar1; split; exact rfl; exact QcO.2.2.2
theorem QkS {q:Int}:(ar2 q b text).2.1=b.2.1:=by unfold ar2; split; exact rfl; exact QcO.2.2.2
theorem DBJ.ar_ {p w m:Nat}(h:DBJ b p w m):DBJ (arV b text) (p+1) (w+2) (m+2):=by
  have k1:=h.pl_ (name:=Jn text)
  have k2:=k1.ar1_ (q:=plI b (Jn text)) (text:=text)
  have k3:=k2.ar2_ (q:=plI b (Jn text)) (text:=text)
  unfold arV
  dsimp only
  split
  · exact k3.st_ (by rw[QkS,Qkj]; exact QiR)
  · exact k3
theorem DBJ.zero (G:List Qz):DBJ (((0,[]),G,[],ByteArray.empty),[],[]) 0 0 0:=⟨rfl,rfl,rfl,rfl,aO _,aO _,fun t h=>by cases h⟩
end
end Go.Proofs.YtgpdhgadmjfokaaGreat
namespace Go.Proofs.YtgpdhgadmjfokaaGreat
open Go.RowKit
set_option maxRecDepth 100000
set_option maxHeartbeats 4000000
section
variable [∀c,Decidable (SgOk c)][∀s,Decidable (XV s)]{c:DSg}{m:Option Yq}{M:List Yq}{x z:Yq}
def ChG (c:DSg)(m:Option Yq)(M:List Yq):Prop:=match m with
  | none=>M=[]
  | some y=>y∈M∧∀z∈M,¬Qdy c z < Qdy c y∧¬(Qdy c z=Qdy c y∧QlU c z < QlU c y)
theorem ChG.step (h:ChG c m M):ChG c (QoG c m x) (M++[x]):=by
  cases m with
  | none=>
    have h:M=[]:=h
    subst h
    show x∈[x]∧_
    refine ⟨aC.2 rfl,fun z hz=> ?_⟩
    rw[bY,aC] at hz
    subst hz; omega
  | some y=>
    obtain ⟨h1,h2⟩:=h
    simp only[QoG]
    split
    · rename_i hc
      show x∈M++[x]∧_
      refine ⟨aR _ (aC.2 rfl),fun z hz=> ?_⟩
      rcases aG.1 hz with hz | hz
      · have:=h2 z hz; omega
      · rw[aC] at hz; subst hz; omega
    · rename_i hc
      show y∈M++[x]∧_
      refine ⟨aP _ h1,fun z hz=> ?_⟩
      rcases aG.1 hz with hz | hz
      · exact h2 z hz
      · rw[aC] at hz; subst hz; omega
end
end Go.Proofs.YtgpdhgadmjfokaaGreat
namespace Go.Proofs.YtgpdhgadmjfokaaGreat
open Go.RowKit
set_option maxRecDepth 100000
set_option maxHeartbeats 4000000
def fbS:QR:=((4,[([3],[0]),([0],[1]),([1],[2]),([2],[3])]),[(⟨#[97]⟩,1),(⟨#[98]⟩,2)],[(0,true),(1,true),(0,false),(1,false)],⟨#[48,48,48,49]⟩)
theorem Qpj:Qq ⟨#[97]⟩ ⟨#[98]⟩ ⟨#[]⟩ ⟨#[97,43,62,98,43,32,98,43,62,97,45,32,97,45,62,98,45,32,42,98,45,62,97,43]⟩=fbS:=by decide+kernel
theorem QiK {x hi:Int}(h:0≤x∧x≤hi):Uo [x] hi:=by
  intro k hk
  have:k=0:=by simpa using hk
  subst this
  unfold RisAt
  simp
  omega
theorem Qim {c:UInt8}(h:Z0 0 c.toNat):XV ⟨#[c]⟩:=by
  refine ⟨fun k hk=> ?_,aO _,by show (1:Nat)≤6; omega⟩
  have h1:k < 1:=hk
  have:k=0:=by omega
  subst this
  exact h
theorem Qo8:StgOk fbS:=by
  refine ⟨⟨⟨by decide,by decide⟩,by decide,fun t ht=> ?_⟩,⟨fun k hk x hx=> ?_,by decide,by decide⟩,rfl,fun l hl=> ?_,fun k hk h=> ?_,rfl⟩
  · simp only [fbS, aD, cE, or_false] at ht
    rcases ht with rfl | rfl | rfl | rfl <;> exact ⟨by simp,QiK (by show _∧_≤(4:Int) - 1; omega),QiK (by show _∧_≤(4:Int) - 1; omega)⟩
  · have h2 : k < 2 := hk
    rcases (show k=0∨k=1 by omega) with rfl | rfl
    · cases hx
      exact ⟨Qim (by unfold Z0; decide),by decide,fun j y hj=>absurd hj (bc j)⟩
    · cases hx
      refine ⟨Qim (by unfold Z0; decide),by decide,fun j y hj hy=> ?_⟩
      have:j=0:=by omega
      subst this
      cases hy
      decide
  · simp only [fbS, aD, cE, or_false] at hl
    rcases hl with rfl | rfl | rfl | rfl <;> exact .inl (by decide)
  · have h4 : k < 4 := hk
    rcases (show k=0∨k=1∨k=2∨k=3 by omega) with rfl | rfl | rfl | rfl <;> first | exact .inl rfl | exact .inr rfl
theorem Qpf [∀s,Decidable (StgOk s)]:(sgV fbS).2=true:=by
  have he:Qh fbS=(((Zn fbS).1.1,(Zn fbS).1.2.1),true):=if_pos ⟨Qo8,by decide+kernel⟩
  obtain ⟨c,hc⟩:=b7.1 (show (goS (Zn fbS).1.1.length (Qv fbS.2.2.1 (Zn fbS).1.2.1) fbS.2.1.length 0 (List.replicate (Zn fbS).1.1.length ByteArray.empty)).isSome=true by decide+kernel)
  have h2:¬(4000:Int) < ((Zn fbS).1.2.1.length:Int):=by decide+kernel
  rw[K5 (s:=fbS) (c:=c) (by rw[he]) (by rw[he]; exact h2) (by rw[he]; exact hc)]
end Go.Proofs.YtgpdhgadmjfokaaGreat
namespace Go.Proofs.YtgpdhgadmjfokaaGreat
open Go.RowKit
theorem Vk (n:Int):0≤IntKind.u64.wrap n∧IntKind.u64.wrap n < 18446744073709551616:=by
  simp only[IntKind.wrap,IntKind.bits,IntKind.signed]
  simp
  omega
theorem V7 {a:Int}(h:0≤a∧a < 18446744073709551616):0≤a / 2 ^ 40∧a / 2 ^ 40 < 18446744073709551616:=by omega
theorem Qar {a:Int}(h:0≤a∧a < 18446744073709551616):0≤bits BinOp.and IntKind.u64 a 255∧bits BinOp.and IntKind.u64 a 255≤255:=by
  have h1:=bits_and_u64_nat a.toNat 255 (by omega) (by decide)
  rw[show ((a.toNat:Nat):Int)=a by omega,show ((255:Nat):Int)=255 from rfl] at h1
  have h2:a.toNat &&& 255≤255:=Nat.and_le_right
  rw[h1]
  omega
section
variable {A:Amb}{P:Program}{s:St}{x y:Operand}{d:Nat}{T T' ty:TypeId}{pos:String}{af:Array Edge}{g:Option (Nat×Bool)}{a b:Int}
theorem QcG (hx:Evl A s x (.val (.int .u64 a)))(hy:Evl A s y (.val (.int .u64 b)))(hn:Nat.blt d A.n=true):Does A P ⟨some d, .binOp .mul T x y T',ty,pos,af,g⟩ s (s.put d (lf (.val (.int .u64 (IntKind.u64.wrap (a*b)))))):=
  Qe rfl hn fun gh a' w r=>by
    have h1:a'.eval x= .int .u64 a:=hx gh a' w r
    have h2:a'.eval y= .int .u64 b:=hy gh a' w r
    refine ⟨_, ?_,_,rfl,rfl⟩
    simp only[execOp,h1,h2,eqGuard_at_int,binOp,Op.intArith]
    simp
theorem Uw (hx:Evl A s x (.val (.int .u64 a)))(hy:Evl A s y (.val (.int .u64 b)))(hn:Nat.blt d A.n=true):Does A P ⟨some d, .binOp .add T x y T',ty,pos,af,g⟩ s (s.put d (lf (.val (.int .u64 (IntKind.u64.wrap (a+b)))))):=
  Qe rfl hn fun gh a' w r=>by
    have h1:a'.eval x= .int .u64 a:=hx gh a' w r
    have h2:a'.eval y= .int .u64 b:=hy gh a' w r
    refine ⟨_, ?_,_,rfl,rfl⟩
    simp only[execOp,h1,h2,eqGuard_at_int,binOp,Op.intArith]
    simp
theorem QcC (hx:Evl A s x (.val (.int .u64 a)))(hy:Evl A s y (.val (.int .u64 b)))(hn:Nat.blt d A.n=true):Does A P ⟨some d, .binOp .and T x y T',ty,pos,af,g⟩ s (s.put d (lf (.val (.int .u64 (bits .and .u64 a b))))):=
  Qe rfl hn fun gh a' w r=>by
    have h1:a'.eval x= .int .u64 a:=hx gh a' w r
    have h2:a'.eval y= .int .u64 b:=hy gh a' w r
    have h3:Op.intBits .and .u64 a b=pure (.int .u64 (bits .and .u64 a b)):=rfl
    refine ⟨_, ?_,_,rfl,rfl⟩
    simp only[execOp,h1,h2,eqGuard_at_int,binOp,h3]
    simp
theorem QcE {k:IntKind}(hx:Evl A s x (.val (.int .u64 a)))(hy:Evl A s y (.val (.int k b)))(hn:Nat.blt d A.n=true)(h0:0≤b∧b≤62):Does A P ⟨some d, .binOp .shr T x y T',ty,pos,af,g⟩ s (s.put d (lf (.val (.int .u64 (a / 2 ^ b.toNat))))):=
  Qe rfl hn fun gh a' w r=>by
    have h1:a'.eval x= .int .u64 a:=hx gh a' w r
    have h2:a'.eval y= .int k b:=hy gh a' w r
    have h3:Op.shift .shr .u64 a k b=pure (.int .u64 (a / 2 ^ b.toNat)):=by
      rw[shift_shr_any _ _ _ _ h0.1,show IntKind.u64.bits=64 from rfl,ck (by omega)]
    refine ⟨_, ?_,_,rfl,rfl⟩
    simp only[execOp,h1,h2,eqGuard_at_int,binOp,h3]
    simp
theorem Qj0 {n:UInt8}(hx:Evl A s x (.dat .u8 n))(hs:P.underlying T=some (.int .u8))(hd:P.underlying T'=some (.int .i64))(hn:Nat.blt d A.n=true):
    Does A P ⟨some d, .convert T T' x,ty,pos,af,g⟩ s (s.put d (lf (dI n.toNat))):=
  Qe rfl hn fun gh a w r=>by
    have h2:a.eval x= .int .u8 n.toNat:=by
      have h3:Rd gh.N .u8 w [a.eval x] n:=hx gh a w r
      have h4:[a.eval x]=[.int .u8 n.toNat]:=h3.rep
      simpa using h4
    have hb:n.toNat < 256:=n.toNat_lt
    have e2:IntKind.i64.wrap (n.toNat:Int)=(n.toNat:Int):=IntWalk.i64_in _ (by omega)
    refine ⟨.int .i64 n.toNat, ?_,_,rfl,Yf (by omega)⟩
    simp only[execOp,h2,convert,run_underlying hs,run_underlying hd,au,aF,Conv.intToInt,e2]
    simp
end
theorem Trd.u8 {P:Program}{T:TypeId}(h:P.underlying T=some (.int .u8))(hc:P.cellsOf T=1):Trd P T .u8:=⟨hc,fun enc w base spare held fuel cs x hx=>by
  obtain ⟨n,rfl,_,hw⟩:=DataW.trod_int h hx
  simp[Lit.wf] at hw
  have hu1:IntKind.u8.min=0:=rfl
  have hu2:IntKind.u8.max=255:=rfl
  rw[hu1,hu2] at hw
  refine ⟨UInt8.ofNat n.toNat, ?_⟩
  have e1:(UInt8.ofNat n.toNat).toNat=n.toNat:=by
    rw[UInt8.toNat_ofNat']
    exact cZ (by omega)
  show [Value.int .u8 n]=[Value.int .u8 ((UInt8.ofNat n.toNat).toNat:Nat)]
  rw[e1,cQ (by omega)]⟩
def Qqj (P:Program)(T:TypeId)(offs:List (Nat×Nat))(zs:List Value):Prop:=
  ∃fs,P.underlying T=some (.struct fs)∧(∀w,(fs.mapM fun (f:Field)=>do pure (f.offset,← sizeOf f.type)).run P w= .ok offs.toArray w)∧zer P T=some (.agg zs.toArray)
theorem H4 {P:Program}{T:TypeId}{fs:List Field}{offs:List (Nat×Nat)}{zs:List Value}(hu:P.underlying T=some (.struct fs.toArray))(hp:plB P fs offs=true)(hz:zer P T=some (.agg zs.toArray)):Qqj P T offs zs:=
  ⟨_,hu,fun w=>by
    rw[List.mapM_toArray]
    have:=Ko (P:=P) (w:=w) hp
    simp only[map_eq_pure_bind,au,this,aF,aX],hz⟩
section
variable {A:Amb}{P:Program}{s:St}{d:Nat}{T ty:TypeId}{pos:String}{af:Array Edge}{g:Option (Nat×Bool)}
theorem WA {zs:List Value}(zl:List LV){offs:List (Nat×Nat)}{parts:Array (Nat×Operand)}{css:List (Bool×List LV)}{ls:List LV}(hb:Qqj P T offs zs)(hz0:∀al gh w,LVs al gh w zl zs)(hv:EvL A s (parts.toList.map (·.2)) css)(hok:∀c∈css,Zc s.tab c.2=true)
    (hf:QcJ offs zl ((parts.toList.map (·.1)).zip (css.map (·.2)))=some ls) (hn:Nat.blt d A.n=true):Does A P ⟨some d, .build T parts,ty,pos,af,g⟩ s (s.put d (ag ls)):=
  Qe rfl hn fun gh a w r=>by
    obtain ⟨fs,h1,h2,h3⟩:=hb
    have hvs:=hv.cms r
    have hlen:=hvs.len
    generalize hV:(parts.toList.map (·.2)).map a.eval=vs at*
    have hpl:parts.toList.length=vs.length:=by rw[← hV]; simp
    have hcells:∀(cs:List (Bool×List LV)) (vs:List Value),CmsR s.tab.al gh w cs vs→(∀c∈cs,Zc s.tab c.2=true)→∀(i:Nat) (c:Bool×List LV) (v:Value),cs[i]? =some c→vs[i]? =some v→∃us,v.cells=us.toArray∧LVs s.tab.al gh w c.2 us:=by
      intro cs
      induction cs with
      | nil=>intro vs _ _ i c v h; simp at h
      | cons c cs ih=>
        rintro vs ⟨v,vs',rfl,k1,k2⟩ hok i c' v' hc hv'
        cases i with
        | zero=>
          simp at hc hv'
          subst hc; subst hv'
          have hc:=hok c (ay ..)
          obtain ⟨b,ls⟩:=c
          exact CmR.cells k1 fun hb=>by
            subst hb
            obtain ⟨l,rfl,q1⟩:=k1
            simp only[Zc,cK] at hc
            obtain ⟨h3,h4⟩:=X3 hc
            exact q1.oneCell h4 h3 fun q ⟨e,he⟩=>(r.cx.en q e he).oneCell
        | succ i=>exact ih vs' k2 (fun c hc=>hok c (ax _ hc)) i c' v' (by simpa using hc) (by simpa using hv')
    have hzl:((parts.toList.map (·.1)).zip (css.map (·.2))).length=vs.length:=by rw[List.length_zip,aQ,aQ]; omega
    obtain ⟨cur',k1,k2⟩:=Jp (al:=s.tab.al) (gh:=gh) (w:=w) (cur:=zs.toArray) hf hzl.symm (fun i p v hp hv'=>by
      have hi:=List.getElem?_zip_eq_some.1 hp
      have h5:=hi.2
      rw[bo] at h5
      obtain ⟨c',h6,h7⟩:=cp.1 h5
      rw[← h7]
      exact hcells css vs hvs hok i c' v h6 hv') (by simpa using hz0 s.tab.al gh w)
    refine ⟨.agg cur', ?_,cur'.toList,by simp,k2⟩
    have hz:(((parts.toList.map (·.1)).zip (css.map (·.2))).map (·.1)).zip vs=(parts.map fun p=>(p.1,a.eval p.2)).toList:=by
      rw[List.map_fst_zip (by rw[aQ,aQ]; omega),cO,← hV,cY]
      generalize parts.toList=pl
      induction pl with
      | nil=>rfl
      | cons p ps ih=>simp[ih]
    rw[hz] at k1
    simp only[execOp,Instr.build,au,Xw h3,aF,run_underlying h1,h2,Value.cells]
    rw[k1]
    simp
end
end Go.Proofs.YtgpdhgadmjfokaaGreat
