/- Valid signal transition graphs, both sides. -/
import Derived.Test.YtjaadeknhofhpaaGreatNm
import Derived.Test.YtjaadeknhofhpaaGreatIdx
import Derived.StillTail
import Derived.Deep.RegionHeld3
import Derived.Maps.AppendAt
import Derived.Laws.OwnMore
set_option linter.unusedSimpArgs false
set_option linter.unusedVariables false
set_option linter.unusedSectionVars false
namespace Go.Proofs.YtjaadeknhofhpaaGreat
set_option maxHeartbeats 4000000
set_option maxRecDepth 100000
open Go.RowKit
theorem Rep.pr_flat {a b c d e:Ty}{w:World}{u0 u1 u2 u3 u4:Value}{x:((a.Den×b.Den)×c.Den×d.Den×e.Den)}(h:Rep (.pr (.pr a b) (.pr c (.pr d e))) w [u0,u1,u2,u3,u4] x)(ha:a.wd=1)(hb:b.wd=1)(hc:c.wd=1)(hd:d.wd=1):
    Rep a w [u0] x.1.1∧Rep b w [u1] x.1.2∧Rep c w [u2] x.2.1∧Rep d w [u3] x.2.2.1∧Rep e w [u4] x.2.2.2:=by
  obtain ⟨h1,h2⟩:=h.pr2 (show (Ty.pr a b).wd=2 by simp[Ty.wd,ha,hb])
  obtain ⟨h3,h4⟩:=h1.open2 ha
  obtain ⟨h5,h6,h7⟩:=h2.open3 hc hd
  exact ⟨h3,h4,h5,h6,h7⟩
theorem Rep.pr_net {a b c d e:Ty}{w:World}{u0 u1 u2 u3 u4:Value}{x:((a.Den×b.Den)×c.Den×d.Den×e.Den)}(h:Rep (.pr (.pr a b) (.pr c (.pr d e))) w [u0,u1,u2,u3,u4] x)(ha:a.wd=1)(hb:b.wd=1):Rep (.pr a b) w [u0,u1] x.1:=
  (h.pr2 (show (Ty.pr a b).wd=2 by simp[Ty.wd,ha,hb])).1
def Qa3 (m:Nat)(l:ZD):Prop:=(0≤l.1∧l.1≤(m:Int) - 1)∨(l.1= -1∧l.2=false)
structure StgOk (s:QX):Prop where
  net:Xv s.1
  sigs:Qec s.2.1
  len:s.2.2.1.length=s.1.2.length
  labs:∀l∈s.2.2.1,Qa3 s.2.1.length l
  bits:W8 s.2.2.2 s.1.1
theorem Qir (s:Int)(up:Bool)(m:Nat)(w:World)(hm:m≤9223372036854775807):
    Calls Tryz.prog 169 #[.agg #[.int .i64 s, .bool up], .int .i64 m] w (RetB (Qa3 m (s,up)) w):=by
  go_enter Tryz.func169,Tryz.ntmps169
  obtain ⟨W0,hW0,hN0,hcA,hsz⟩:=KT w #[.int .i64 s, .bool up] 55
  have a0:=hcA 0
  have a1:=hcA 1
  simp only[ce,bh,bJ] at a0 a1
  have hs0:w.heap.size < W0.heap.size:=by omega
  clear hcA hsz
  have ew:IntKind.i64.wrap ((m:Int) - 1)=(m:Int) - 1:=IntWalk.i64_in _ (by omega)
  go_wp2_with fail
  rw[← hW0]
  have HW:=hid hW0
  clear hW0
  refine (Kl _ _ _ _).mono ?_
  rintro e w1 ⟨b1,rfl,hb1,hq1⟩
  obtain ⟨hc1,hf1⟩:=hq1.cells
  cases b1 with
  | true=>
    have HB:=hid (hb1.1 rfl)
    clear hb1
    go_wp2
    go_ret
    exact RetB.yes (.inl HB.out) (hN0.trans hq1)
  | false=>
    have HB:=hid (RetB.not hb1)
    clear hb1
    by_cases hs:s= -1
    · have e1 := Ke hs
      have HS:=hid hs
      clear hs
      cases up with
      | true=>
        go_wp2
        go_ret
        exact RetB.no (fun h=>by rcases h with h | ⟨_,h⟩; exact HB.out h; cases h) (hN0.trans hq1)
      | false=>
        go_wp2
        go_ret
        exact RetB.yes (.inr ⟨HS.out,rfl⟩) (hN0.trans hq1)
    · have e1 := WA hs
      have HS:=hid hs
      clear hs
      go_wp2
      go_ret
      exact RetB.no (fun h=>by rcases h with h | ⟨h,_⟩; exact HB.out h; exact HS.out h) (hN0.trans hq1)
theorem Qj1 (s:Int)(up:Bool)(m:Nat)(w:World)(hm:m≤9223372036854775807):
    Calls Tryz.prog 167 #[.agg #[.int .i64 s, .bool up], .int .i64 m] w (RetB (Qa3 m (s,up)) w):=by
  go_enter Tryz.func167,Tryz.ntmps167
  obtain ⟨W0,hW0,hN0,hcA,hsz⟩:=KT w #[.int .i64 s, .bool up] 55
  have a0:=hcA 0
  have a1:=hcA 1
  simp only[ce,bh,bJ] at a0 a1
  have hs0:w.heap.size < W0.heap.size:=by omega
  clear hcA hsz
  have ew:IntKind.i64.wrap ((m:Int) - 1)=(m:Int) - 1:=IntWalk.i64_in _ (by omega)
  go_wp2_with fail
  rw[← hW0]
  have HW:=hid hW0
  clear hW0
  refine (W3 _ _ _ _).mono ?_
  rintro e w1 ⟨b1,rfl,hb1,hq1⟩
  obtain ⟨hc1,hf1⟩:=hq1.cells
  cases b1 with
  | true=>
    have HB:=hid (hb1.1 rfl)
    clear hb1
    go_wp2
    go_ret
    exact RetB.yes (.inl HB.out) (hN0.trans hq1)
  | false=>
    have HB:=hid (RetB.not hb1)
    clear hb1
    by_cases hs:s= -1
    · have e1 := Ke hs
      have HS:=hid hs
      clear hs
      cases up with
      | true=>
        go_wp2
        go_ret
        exact RetB.no (fun h=>by rcases h with h | ⟨_,h⟩; exact HB.out h; cases h) (hN0.trans hq1)
      | false=>
        go_wp2
        go_ret
        exact RetB.yes (.inr ⟨HS.out,rfl⟩) (hN0.trans hq1)
    · have e1 := WA hs
      have HS:=hid hs
      clear hs
      cases up with
      | true=>
        go_wp2
        go_ret
        exact RetB.no (fun h=>by rcases h with h | ⟨h,_⟩; exact HB.out h; exact HS.out h) (hN0.trans hq1)
      | false=>
        go_wp2
        go_ret
        exact RetB.no (fun h=>by rcases h with h | ⟨h,_⟩; exact HB.out h; exact HS.out h) (hN0.trans hq1)
def LabAt (m:Nat)(ls:List ZD)(k:Nat):Prop:=∀x,ls[k]? =some x→Qa3 m x
theorem LabAt.step {m:Nat}{ls:List ZD}{k:Nat}(h:∀j,j < k→LabAt m ls j)(hk:LabAt m ls k):∀j,j < k+1→LabAt m ls j:=by
  intro j hj
  by_cases e:j=k
  · subst e; exact hk
  · exact h j (by omega)
theorem Qmg {m:Nat}{ls:List ZD}(h:∀j,j < ls.length→LabAt m ls j):∀l∈ls,Qa3 m l:=by
  intro l hl
  obtain ⟨j,hj⟩:=aS.1 hl
  exact h j (au.1 hj).1 l hj
theorem QkJ (a0 a1 a2 a3 a4:Value)(s:QX)(w:World)(hn:Rep ZC w [a0,a1,a2,a3,a4] s):
    Calls Tryz.prog 79 #[.agg #[a0,a1,a2,a3,a4]] w (RetB (StgOk s) w):=by
  have rN:=hn.pr_net rfl rfl
  obtain ⟨⟨p,ts⟩,ss,ls,st⟩:=s
  obtain ⟨rP,rT,rS,rL,rM⟩:=hn.pr_flat rfl rfl rfl rfl
  dsimp only at rP rT rS rL rM rN
  obtain ⟨rfl, -, -⟩:=rP.int_
  obtain ⟨AT,cT,rfl,hlT,hcT⟩:=rT.slv
  obtain ⟨AS,cS,rfl,hlS,hcS⟩:=rS.slv
  obtain ⟨AL,cL,rfl,hlL,hcL⟩:=rL.slv
  obtain ⟨rfl,hst⟩:=rM.str_
  have hmT:ts.length≤9223372036854775807:=by unfold maxLen at hcT; omega
  have hmS:ss.length≤9223372036854775807:=by unfold maxLen at hcS; omega
  have hmL:ls.length≤9223372036854775807:=by unfold maxLen at hcL; omega
  have HOK:=hid (fun (h:StgOk ((p,ts),ss,ls,st))=>h)
  have HYES:=hid (fun h1 h2 h3 h4 h5=>(StgOk.mk h1 h2 h3 h4 h5:StgOk ((p,ts),ss,ls,st)))
  generalize hPP:StgOk ((p,ts),ss,ls,st)=PP at*
  have HPP:=hid hPP
  clear hPP HOK rP rM
  obtain ⟨W0,hW0,hN0,hcA,hsz⟩:=KT w #[.int .i64 p, .slice AT ts.length cT, .slice AS ss.length cS, .slice AL ls.length cL, .string st] 29
  have a0:=hcA 0
  have a1:=hcA 1
  have a2:=hcA 2
  have a3:=hcA 3
  have a4:=hcA 4
  simp only[ce,bh,bJ] at a0 a1 a2 a3 a4
  have hs0:w.heap.size < W0.heap.size:=by omega
  clear hcA hsz
  go_enter Tryz.func79,Tryz.ntmps79
  go_wp2
  rw[← hW0]
  have HW:=hid hW0
  clear hW0
  go_loopw [8] (fun i wr=>∃k:Nat,k≤ls.length∧i= .int .i64 k∧(∀j,j < k→LabAt ss.length ls j)∧Nw W0 wr) (fun i _=>ls.length - (intOf i).toNat)
  case atStart=>exact ⟨0,aw _,rfl,fun j h=>absurd h (by omega),Zj _⟩
  case round=>
    obtain ⟨wo,rfl⟩:∃wo:World,wo=wr:=⟨_,rfl⟩
    obtain ⟨k,hk,rfl,hyes,hq⟩:=hrel
    have HY:=hid hyes
    clear hyes
    obtain ⟨hc0,hf0⟩:=hq.cells
    have hsw:w.heap.size < wo.heap.size:=by have:=hq.size; omega
    by_cases hlt:k < ls.length
    · obtain ⟨b, o, v0, v1, rfl, hx, c0, c1⟩ := ((rL.nw hN0).nw hq).at2 rfl (ap hlt)
      have HX:=hid (ap hlt)
      generalize hxk:ls[k]=x at*
      clear hxk
      obtain ⟨sg,up⟩:=x
      obtain ⟨r0,r1⟩:=hx.open2 rfl
      dsimp only at r0 r1
      obtain ⟨rfl, -, -⟩:=r0.int_
      obtain rfl:=r1.bool_
      clear hx r0 r1
      go_wp2_with fail
      refine (Qir _ _ _ _ hmS).mono ?_
      rintro e w1 ⟨b1,rfl,hb1,hq1⟩
      obtain ⟨hc1,hf1⟩:=hq1.cells
      cases b1 with
      | false=>
        have HB:=hid (RetB.not hb1)
        clear hb1
        go_wp2
        go_ret
        exact RetB.no (fun h=>by rw[← HPP.out] at h; exact HB.out (h.labs _ (ai HX.out))) (by (repeat (first | with_reducible exact Zj _ | with_reducible assumption | with_reducible apply Nw.alloc | with_reducible apply Nw.drew | with_reducible apply Nw.drewN | (with_reducible refine Zv ?_ ?_; focus (first | (simp; done) | (simp; omega))) | with_reducible refine ZT ‹_› ?_)))
      | true=>
        have HB:=hid (hb1.1 rfl)
        clear hb1
        go_wp2
        go_roundw
        case rel=>exact ⟨k+1,by omega,by go_num,LabAt.step HY.out (fun y hy=>by
          rw[HX.out] at hy
          cases hy
          exact HB.out),by (repeat (first | with_reducible exact Zj _ | with_reducible assumption | with_reducible apply Nw.alloc | with_reducible apply Nw.drew | with_reducible apply Nw.drewN | (with_reducible refine Zv ?_ ?_; focus (first | (simp; done) | (simp; omega))) | with_reducible refine ZT ‹_› ?_))⟩
        case measure=>simp[intOf]; omega
    · have : k = ls.length := by omega
      subst this
      go_wp2_with fail
      refine (QdR _ _ (p,ts) _ ((rN.nw hN0).nw hq)).mono ?_
      rintro e w1 ⟨b1,rfl,hb1,hq1⟩
      have hN1:Nw W0 w1:=hq.trans hq1
      clear hc0 hf0
      obtain ⟨hc1,hf1⟩:=hN1.cells
      cases b1 with
      | false=>
        have HB:=hid (RetB.not hb1)
        clear hb1
        go_wp2
        go_ret
        exact RetB.no (fun h=>by rw[← HPP.out] at h; exact HB.out h.net) (hN0.trans hN1)
      | true=>
        have HB:=hid (hb1.1 rfl)
        clear hb1
        go_wp2_with fail
        refine (Qfo _ ss _ (rS.nw (hN0.trans hN1))).mono ?_
        rintro e w2 ⟨b2,rfl,hb2,hq2⟩
        have hN2:=hN1.trans hq2
        clear hc1 hf1
        obtain ⟨hc1,hf1⟩:=hN2.cells
        cases b2 with
        | false=>
          have HB2:=hid (RetB.not hb2)
          clear hb2
          go_wp2
          go_ret
          exact RetB.no (fun h=>by rw[← HPP.out] at h; exact HB2.out h.sigs) (hN0.trans hN2)
        | true=>
          have HB2:=hid (hb2.1 rfl)
          clear hb2
          by_cases hll:ls.length=ts.length
          · have e1 : ((ls.length : Int) == (ts.length : Int)) = true := Ke (by omega)
            have HLL:=hid hll
            clear hll
            go_wp2_with fail
            refine (QjQ _ _ (p,ts) st _ (rN.nw (hN0.trans hN2)) hst).mono ?_
            rintro e w3 ⟨b3,rfl,hb3,hq3⟩
            have HB3:=hid hb3
            clear hb3
            go_wp2
            go_ret
            exact RetB.of (HB3.out.trans ⟨fun h=>by rw[← HPP.out]; exact HPP.out▸(HPP.out▸HYES.out HB.out HB2.out HLL.out (Qmg HY.out) h),fun h=>by rw[← HPP.out] at h; exact h.bits⟩) ((hN0.trans hN2).trans hq3)
          · have e1 : ((ls.length : Int) == (ts.length : Int)) = false := WA (by omega)
            have HLL:=hid hll
            clear hll
            go_wp2
            go_ret
            exact RetB.no (fun h=>by rw[← HPP.out] at h; exact HLL.out h.len) (hN0.trans hN2)
theorem Qas:Qt Tryz.prog 166:=fun args W=>Qk Tryz.func166 (by kernel_rfl) rfl args W
theorem QcO (v0 v1:Value)(x:ZD)(g:Nat)(AS:Option Addr)(m c:Nat)(w:World)(hx:Rep Wj w [v0,v1] x)(hb:w.cell? ⟨g,2,none⟩=some (.slice AS m c))(hm:m≤9223372036854775807):
    Calls Tryz.prog 166 #[.agg #[v0,v1], .pointer (some ⟨g,0,none⟩)] w (RetB (¬Qa3 m x) w):=by
  obtain ⟨sg,up⟩:=x
  obtain ⟨r0,r1⟩:=hx.open2 rfl
  dsimp only at r0 r1
  obtain ⟨rfl, -, -⟩:=r0.int_
  obtain rfl:=r1.bool_
  have hg:g < w.heap.size:=cw w _ hb
  clear hx r0 r1
  go_enter Tryz.func166,Tryz.ntmps166
  go_wp2_with fail
  refine (Qj1 _ _ _ _ hm).mono ?_
  rintro e w1 ⟨b1,rfl,hb1,hq1⟩
  have HB:=hid hb1
  clear hb1
  go_wp2
  go_ret
  refine RetB.of ?_ (((Zj _).alloc _).trans hq1)
  have h1:=HB.out
  cases b1 with
  | false=>simp only[Bool.not_false,true_iff]; exact fun h=>by have:=h1.2 h; cases this
  | true=>simp only[cK,bi,false_iff]; exact fun h=>h (h1.1 rfl)
theorem QdF (a0 a1 a2 a3 a4:Value)(s:QX)(w:World)(hn:Rep ZC w [a0,a1,a2,a3,a4] s):
    Calls Tryz.prog 77 #[.agg #[a0,a1,a2,a3,a4]] w (RetB (StgOk s) w):=by
  have rN:=hn.pr_net rfl rfl
  obtain ⟨⟨p,ts⟩,ss,ls,st⟩:=s
  obtain ⟨rP,rT,rS,rL,rM⟩:=hn.pr_flat rfl rfl rfl rfl
  dsimp only at rP rT rS rL rM rN
  obtain ⟨rfl, -, -⟩:=rP.int_
  obtain ⟨AT,cT,rfl,hlT,hcT⟩:=rT.slv
  obtain ⟨AS,cS,rfl,hlS,hcS⟩:=rS.slv
  obtain ⟨AL,cL,rfl,hlL,hcL⟩:=rL.slv
  obtain ⟨rfl,hst⟩:=rM.str_
  have hmT:ts.length≤9223372036854775807:=by unfold maxLen at hcT; omega
  have hmS:ss.length≤9223372036854775807:=by unfold maxLen at hcS; omega
  have hmL:ls.length≤9223372036854775807:=by unfold maxLen at hcL; omega
  have HYES:=hid (fun h1 h2 h3 h4 h5=>(StgOk.mk h1 h2 h3 h4 h5:StgOk ((p,ts),ss,ls,st)))
  generalize hPP:StgOk ((p,ts),ss,ls,st)=PP at*
  have HPP:=hid hPP
  clear hPP rP rM
  obtain ⟨W0,hW0,hN0,hcA,hsz⟩:=KT w #[.int .i64 p, .slice AT ts.length cT, .slice AS ss.length cS, .slice AL ls.length cL, .string st] 29
  have a0:=hcA 0
  have a1:=hcA 1
  have a2:=hcA 2
  have a3:=hcA 3
  have a4:=hcA 4
  simp only[ce,bh,bJ] at a0 a1 a2 a3 a4
  have hs0:w.heap.size < W0.heap.size:=by omega
  clear hcA hsz
  go_enter Tryz.func77,Tryz.ntmps77
  go_wp2_with fail
  rw[← hW0]
  have HW:=hid hW0
  clear hW0
  refine (Qax _ _ (p,ts) st _ (rN.nw hN0) hst).mono ?_
  rintro e w1 ⟨b1,rfl,hb1,hq1⟩
  obtain ⟨hc1,hf1⟩:=hq1.cells
  cases b1 with
  | false=>
    have HB:=hid (RetB.not hb1)
    clear hb1
    go_wp2
    go_ret
    exact RetB.no (fun h=>by rw[← HPP.out] at h; exact HB.out ⟨h.net,h.bits⟩) (hN0.trans hq1)
  | true=>
    have HB:=hid (hb1.1 rfl)
    clear hb1
    go_wp2_with fail
    refine (Qeq _ ss _ (rS.nw (hN0.trans hq1))).mono ?_
    rintro e w2 ⟨b2,rfl,hb2,hq2⟩
    have hN2:=hq1.trans hq2
    clear hc1 hf1
    obtain ⟨hc1,hf1⟩:=hN2.cells
    cases b2 with
    | false=>
      have HB2:=hid (RetB.not hb2)
      clear hb2
      go_wp2
      go_ret
      exact RetB.no (fun h=>by rw[← HPP.out] at h; exact HB2.out h.sigs) (hN0.trans hN2)
    | true=>
      have HB2:=hid (hb2.1 rfl)
      clear hb2
      by_cases hll:ls.length=ts.length
      · have e1 : ((ls.length : Int) == (ts.length : Int)) = true := Ke (by omega)
        have HLL:=hid hll
        clear hll
        go_wp2_with fail
        refine (Jt (fun l=>¬Qa3 ss.length l) ls _ _ _ _ (rL.nw (hN0.trans hN2)) Qas ?_).mono ?_
        · intro i y W u0 u1 hi' hqW hy
          exact QcO u0 u1 y _ AS ss.length cS W hy (by rw[(hqW.cells).1 _ _ (by have:=hN2.size; omega),hc1 _ _ hs0]; exact a2) hmS
        · rintro e w3 ⟨b3, rfl, hb3, hq3⟩
          have HB3:=hid hb3
          clear hb3
          go_wp2
          go_ret
          refine RetB.of ?_ ((hN0.trans hN2).trans hq3)
          have h3:=HB3.out
          cases b3 with
          | false=>
            simp only[Bool.not_false,true_iff]
            rw[← HPP.out]
            refine HPP.out▸(HPP.out▸HYES.out HB.out.1 HB2.out HLL.out (fun l hl=> ?_) HB.out.2)
            exact bV fun hne=>by
              have:=h3.2 ⟨l,hl,hne⟩
              cases this
          | true=>
            simp only[cK,bi,false_iff]
            intro h
            rw[← HPP.out] at h
            obtain ⟨l,hl,hne⟩:=h3.1 rfl
            exact hne (h.labs l hl)
      · have e1 : ((ls.length : Int) == (ts.length : Int)) = false := WA (by omega)
        have HLL:=hid hll
        clear hll
        go_wp2
        go_ret
        exact RetB.no (fun h=>by rw[← HPP.out] at h; exact HLL.out h.len) (hN0.trans hN2)
end Go.Proofs.YtjaadeknhofhpaaGreat
namespace Go.Proofs.YtjaadeknhofhpaaGreat
set_option maxHeartbeats 4000000
set_option maxRecDepth 100000
open Go.RowKit
def Qcv (ops:Array Oper)(n:Nat):Bool:=
  (List.range n).all fun i=>match ops[i]? with
    | some o=>(o.after.all fun e=> !Region.binds .any e||decide (e.on < i))&&(match o.guard with | some (g,_)=>decide (g < n) | none=>true)
    | none=>false
def QtR (l:List Oper)(n:Nat):Bool:=
  decide (n < l.length)&&Qcv l.toArray n&&(List.range n).all (fun i=>Region.waitsFor .any l.toArray n i)&&Region.chainB .any l.toArray n&&
    Region.seqB .any l.toArray (l.length - n) n (Array.replicate n true++Array.replicate (l.length - n) false)
def QtV (P:Program)(l:List Oper)(n:Nat)(Q:Exit→Act→World→Prop):Exit→Act→World→Prop
  | .normal,a,w=>wpList P l.toArray Q (l.drop n) a w
  | e,a,w=>Q e a w
section
variable {P:Program}{Q:Exit→Act→World→Prop}{a:Act}{w:World}
theorem QiG {n g:Nat}{listed:Array Bool}(hs:listed.size=n)(b:Bool){i:Nat}(hi:i < n):(listed++Array.replicate g false).getD i b=listed.getD i b:=by
  simp[hi,hs,Array.getElem_append_left,show i < n+g by omega]
theorem QjH {ops:Array Oper}{n:Nat}{listed:Array Bool}(hH:Qcv ops n=true)(hs:listed.size=n)(hr:∀i,i < n→i∉Region.ready .any ops (listed++Array.replicate (ops.size - n) false))(hn:n≤ops.size):∀i,i < n→listed.getD i true=true:=by
  intro i
  induction i using Nat.strongRecOn with
  | _ i ih=>
    intro hi
    cases h:listed.getD i true with
    | true=>rfl
    | false=>
      refine absurd (mem_ready.2 ⟨by rw[QiG hs _ hi]; exact h, ?_⟩) (hr i hi)
      have h1:=ae.1 hH i (cj.2 hi)
      cases ho:ops[i]? with
      | none=>rw[ho] at h1; cases h1
      | some o=>
        rw[ho] at h1
        simp only[aF,Array.all_eq_true_iff_forall_mem,bR,bS,aN] at h1
        refine ⟨o,rfl,fun e he hb=> ?_⟩
        have h2:=h1.1 e he
        rw[hb] at h2
        have h3:e.on < i:=by simpa using h2
        rw[QiG hs _ (by omega)]
        have:=ih e.on h3 (by omega)
        have h4:e.on < listed.size:=by omega
        simpa [h4] using this
end
end Go.Proofs.YtjaadeknhofhpaaGreat
namespace Go.Proofs.YtjaadeknhofhpaaGreat
set_option maxHeartbeats 4000000
set_option maxRecDepth 100000
open Go.RowKit
structure Mw (B M:Nat) (w w':World):Prop where
  os:w'.os=w.os
  tape:w'.tape=w.tape
  output:w'.output=w.output
  size:w.heap.size≤w'.heap.size
  block:∀k,k < w.heap.size→(k < B∨M≤k)→w'.heap[k]? =w.heap[k]?
theorem Mw.nw {a w w':World}{B M:Nat}(h:Mw B M w w')(ha:Nw a w)(hB:a.heap.size≤B):Nw a w':=
  ⟨h.os.trans ha.os,h.tape.trans ha.tape,h.output.trans ha.output,b5 ha.size h.size,fun k hk=>(h.block k (bq hk ha.size) (.inl (bq hk hB))).trans (Below.block ha k hk)⟩
theorem Mw.trans {a b c:World}{B M:Nat}(h:Mw B M a b)(k:Mw B M b c):Mw B M a c:=
  ⟨k.os.trans h.os,k.tape.trans h.tape,k.output.trans h.output,b5 h.size k.size,fun g hg hx=>(k.block g (bq hg h.size) hx).trans (h.block g hg hx)⟩
theorem Mw.mono {B M B' M':Nat}{w w':World}(h:Mw B M w w')(hB:B'≤B)(hM:M≤M'):Mw B' M' w w':=
  ⟨h.os,h.tape,h.output,h.size,fun k hk hx=>h.block k hk (by omega)⟩
theorem Mw.cells {B M:Nat}{w w':World}(h:Mw B M w w'):(∀b o,b < w.heap.size→(b < B∨M≤b)→w'.cell? ⟨b,o,none⟩=w.cell? ⟨b,o,none⟩)∧
    (∀b o,b < w.heap.size→(b < B∨M≤b)→w'.frozen? ⟨b,o,none⟩=w.frozen? ⟨b,o,none⟩):=
  ⟨fun b o h1 h2=>cN (h.block b h1 h2),fun b o h1 h2=>World.frozen?_of_block (h.block b h1 h2)⟩
structure ElemInfo (P:Program) (E:TypeId) (e:Ty):Prop where
  ex:∃i z,P.info? E=some i∧i.zero=some z∧i.size=e.wd∧i.bytes≤65536∧z.cells.size=e.wd
def VO (P:Program)(E:TypeId)(n:Nat):Bool:=match P.info? E with
  | some i=>match i.zero with
    | some z=>i.size==n&&decide (i.bytes≤65536)&&z.cells.size==n
    | none=>false
  | none=>false
theorem QcW {P:Program}{E:TypeId}{e:Ty}(h:VO P E e.wd=true):ElemInfo P E e:=by
  unfold VO at h
  cases hi:P.info? E with
  | none=>rw[hi] at h; cases h
  | some i=>
    rw[hi] at h
    simp only at h
    cases hz:i.zero with
    | none=>rw[hz] at h; cases h
    | some z=>
      rw[hz] at h
      simp only[aF,beq_iff_eq,aN] at h
      exact ⟨i,z,hi,hz,h.1.1,h.1.2,h.2⟩
section
variable {E:TypeId}{e:Ty}{w:World}
theorem Own.row {fp:List Nat}{v:Value}{xs:List e.Den}(h:Own (.sl E e) w fp [v] xs):∃cs fps,w.ownsRow 0 E e.wd v xs.length cs∧OwnL (Own e w) fps cs xs∧((v.ownBlock=none∧fp=[]∧fps=[])∨∃g,v.ownBlock=some g∧fp=g :: fps):=by
  rcases h with ⟨rfl,h,h'⟩ | ⟨g,cap,cur,fps,rfl,h1,h2,h3,h4,h5,h6⟩
  · subst h'
    simp only[aB,and_true] at h
    subst h
    exact ⟨[],[],World.ownsRow_nil _ _ _ _,⟨rfl,rfl⟩, .inl ⟨rfl,rfl,rfl⟩⟩
  · simp only [aB, and_true] at h1
    subst h1
    refine ⟨_,fps,⟨?_, .inr ⟨g,cap,cur,rfl,aw _,h2,h3,h4,h5,rfl⟩⟩,h6, .inr ⟨g,rfl,rfl⟩⟩
    exact h6.len
theorem Qkh {fps:List Nat}{v:Value}{cs:List Value}{xs:List e.Den}{n:Nat}(hn:n=xs.length)(h:w.ownsRow 0 E e.wd v n cs)(ho:OwnL (Own e w) fps cs xs):
    ∃fp,Own (.sl E e) w fp [v] xs∧((v.ownBlock=none∧fp=fps)∨∃g,v.ownBlock=some g∧fp=g :: fps):=by
  subst hn
  rcases h.2 with ⟨rfl,h0⟩ | ⟨g,cap,cur,rfl,_,h2,h3,h4,h5,h6⟩
  · obtain rfl := bn h0
    obtain ⟨rfl,_⟩:=ho
    exact ⟨[], .inl ⟨rfl,rfl,rfl⟩, .inl ⟨rfl,rfl⟩⟩
  · exact ⟨g :: fps, .inr ⟨g,cap,cur,fps,rfl,rfl,h2,h3,h4,h5,by rw[h6]; exact ho⟩, .inr ⟨g,rfl,rfl⟩⟩
theorem OwnL.one {fp:List Nat}:∀{xs:List e.Den} {fp:List Nat} {cs:List Value},OwnL (Own e w) fp cs xs→∀u∈cs,u.oneCell'=true
  | [],_,_,h=>by rw[h.2]; simp
  | _ :: _,_,_,⟨_,_,_,_,_,h2,h3,h4⟩=>by
    intro u hu
    rw[h2] at hu
    rcases aJ.1 hu with hu | hu
    · exact Rep.one h3.rep u hu
    · exact OwnL.one (fp:=[]) h4 u hu
theorem OwnL.lt {xs:List e.Den}{fp:List Nat}{cs:List Value}(h:OwnL (Own e w) fp cs xs):∀g∈fp,g < w.heap.size:=by
  induction xs generalizing fp cs with
  | nil=>rw[h.1]; simp
  | cons x xs ih=>
    obtain ⟨f1,f2,c1,c2,rfl,rfl,h3,h4⟩:=h
    intro g hg
    rcases aJ.1 hg with hg | hg
    · exact Own.lt h3 g hg
    · exact ih h4 g hg
variable {P:Program}
def Ty.flat:Ty→Bool
  | .pr a b=>a.flat&&b.flat
  | .sl _ _=>false
  | _=>true
theorem Rep.own:∀{t:Ty} {w:World} {cs:List Value} {x:t.Den},Rep t w cs x→t.flat=true→Own t w [] cs x
  | .int,_,_,_,h,_=>⟨rfl,h⟩
  | .bool,_,_,_,h,_=>⟨rfl,h⟩
  | .str,_,_,_,h,_=>⟨rfl,h⟩
  | .u8,_,_,_,h,_=>⟨rfl,h⟩
  | .vl,_,_,_,h,_=>⟨rfl,h⟩
  | .sl _ _,_,_,_,_,h=>by cases h
  | .pr a b,_,_,_,⟨l,r,h,h1,h2⟩,hf=>by
    simp only[Ty.flat,aF] at hf
    exact ⟨[],[],l,r,rfl,h,Rep.own h1 hf.1,Rep.own h2 hf.2⟩
theorem QeG (hf:e.flat=true)(b:Nat):∀(ys:List e.Den) (o:Nat),(∀i x,ys[i]? =some x→∃ds,Rep e w ds x∧∀j u,ds[j]? =some u→w.cell? ⟨b,o+i*e.wd+j,none⟩=some u)→
    ∃news,OwnL (Own e w) [] news ys∧∀j u,news[j]? =some u→w.cell? ⟨b,o+j,none⟩=some u
  | [],_,_=>⟨[],⟨rfl,rfl⟩,by simp⟩
  | y :: ys,o,h=>by
    obtain ⟨ds,h1,h2⟩:=h 0 y rfl
    obtain ⟨news,h3,h4⟩:=QeG hf b ys (o+e.wd) (fun i x hx=>by
      obtain ⟨ds',h5,h6⟩:=h (i+1) x hx
      refine ⟨ds',h5,fun j u hu=> ?_⟩
      rw[← h6 j u hu]
      congr 2
      rw[bD]
      omega)
    refine ⟨ds++news,⟨[],[],ds,news,rfl,rfl,h1.own hf,h3⟩,fun j u hu=> ?_⟩
    by_cases hj:j < ds.length
    · rw [bU hj] at hu
      have:=h2 j u hu
      simpa using this
    · rw [bu (by omega)] at hu
      rw[← h4 _ _ hu]
      congr 2
      have:=h1.len
      omega
theorem Rep.src {A:Option Addr}{n c M:Nat}{ys:List e.Den}(hr:Rep (.sl E e) w [.slice A n c] ys)(hf:e.flat=true):n=ys.length∧((A=none∧n=0)∨∃ad news,A=some ad∧FrsL e M M w news ys∧∀j u,news[j]? =some u→w.cell? (ad.add j)=some u):=by
  obtain ⟨A',c',h1,h2,h3,h4⟩:=hr
  simp only[aB,Value.slice.injEq,and_true] at h1
  obtain ⟨rfl,rfl,rfl⟩:=h1
  refine ⟨rfl, ?_⟩
  rcases Nat.eq_zero_or_pos ys.length with h0 | hp
  · cases A with
    | none=>exact .inl ⟨rfl,h0⟩
    | some ad=>
      obtain rfl:=bn h0
      exact .inr ⟨ad,[],rfl,⟨[],⟨rfl,rfl⟩,bH,by simp⟩,by simp⟩
  · obtain ⟨b, o, rfl, h5⟩ := h4 hp
    obtain ⟨news,h6,h7⟩:=QeG hf b ys o h5
    exact .inr ⟨⟨b,o,none⟩,news,rfl,⟨[],h6,bH,by simp⟩,fun j u hu=>by rw[Addr.add_lit]; exact h7 j u hu⟩
theorem Qr2 (w:World)(E:TypeId)(e:Ty):Frs (.sl E e) w.heap.size (w.heap.size+1) (w.alloc (.cells #[] E)) [.slice (some ⟨w.heap.size,0,none⟩) 0 0] []:=
  ⟨[w.heap.size], .inr ⟨w.heap.size,0, #[],[],rfl,rfl,heap_alloc_new w _,aL _,aw _,by simp,by simpa using ⟨rfl,rfl⟩⟩,by simp,by simp⟩
end
end Go.Proofs.YtjaadeknhofhpaaGreat
