/- Signals of a graph or a netlist: valid ones. -/
import Derived.Test.YtfkmmpfdncopdaaGreatNStr
import Derived.StillTail
import Derived.Deep.RegionHeld3
import Derived.Maps.AppendAt
import Derived.Laws.OwnMore
set_option linter.unusedSimpArgs false
set_option linter.unusedVariables false
set_option linter.unusedSectionVars false
namespace Go.Proofs.YtfkmmpfdncopdaaGreat
set_option maxHeartbeats 4000000
set_option maxRecDepth 100000
open Go.RowKit
def SigOkAt (xs:List Qz)(k:Nat):Prop:=∀x,xs[k]? =some x→QbE x.1∧(1≤x.2∧x.2≤3)∧∀j y,j < k→xs[j]? =some y→y.1≠x.1
def Y3 (xs:List Qz):Prop:=(∀k,k < xs.length→SigOkAt xs k)∧1≤xs.length∧xs.length≤8
theorem SigOkAt.step {xs:List Qz}{k:Nat}(h:∀j,j < k→SigOkAt xs j)(hk:SigOkAt xs k):∀j,j < k+1→SigOkAt xs j:=by
  intro j hj
  by_cases e:j=k
  · subst e; exact hk
  · exact h j (by omega)
theorem KC (v:Value)(xs:List Qz)(w:World)(hr:Rep (.sl 203 YR) w [v] xs):Calls Tryz.prog 162 #[v] w (RetB (Y3 xs) w):=by
  obtain ⟨A,c,rfl,hl,hc⟩:=hr.slv
  have hm:xs.length≤9223372036854775807:=by unfold maxLen at hc; omega
  go_enter Tryz.func162,Tryz.ntmps162
  go_wp2
  go_loopw [9] (fun i wr=>∃k:Nat,k≤xs.length∧i= .int .i64 k∧(∀j,j < k→SigOkAt xs j)∧Nw w wr) (fun i _=>xs.length - (intOf i).toNat)
  case atStart=>exact ⟨0,aR _,rfl,fun j h=>absurd h (by omega),QJ _⟩
  case round=>
    obtain ⟨wo,rfl⟩:∃wo:World,wo=wr:=⟨_,rfl⟩
    obtain ⟨k,hk,rfl,hyes,hq⟩:=hrel
    have HY:=hid hyes
    clear hyes
    by_cases hlt:k < xs.length
    · obtain ⟨b, o, v0, v1, rfl, hx, c0, c1⟩ := (hr.nw hq).at2 rfl (aa hlt)
      have HX:=hid (aa hlt)
      generalize hxk:xs[k]=x at*
      clear hxk
      obtain ⟨s,n⟩:=x
      obtain ⟨r0,r1⟩:=hx.open2 rfl
      obtain ⟨rfl,hs⟩:=r0.str_
      obtain ⟨rfl, -⟩:=r1.int_
      have Hs:=hid hs
      clear hx r0 r1 hs
      go_wp2_with fail
      refine (Qin s _ Hs.out).mono ?_
      rintro e w1 ⟨b1,rfl,hb1,hq1⟩
      obtain ⟨hc1,hf1⟩:=hq1.cells
      have hz1:wo.heap.size < w1.heap.size:=by (have hz2:=hq1.size; simp at hz2; omega)
      cases b1 with
      | false=>
        have HB1:=hid (RetB.not hb1)
        clear hb1
        go_wp2
        go_ret
        exact RetB.no (fun h=>HB1.out (h.1 k hlt _ HX.out).1) (by (repeat (first | with_reducible exact QJ _ | with_reducible assumption | with_reducible apply Nw.alloc | with_reducible apply Nw.drew | with_reducible apply Nw.drewN | (with_reducible refine QX ?_ ?_; focus (first | (simp; done) | (simp; omega))) | with_reducible refine Zg (by assumption) ?_)))
      | true=>
        have HB1:=hid (hb1.1 rfl)
        clear hb1
        go_wp2_with fail
        refine (Vh n _ _ _).mono ?_
        rintro e w2 ⟨b2,rfl,hb2,hq2⟩
        obtain ⟨hc2,hf2⟩:=hq2.cells
        have hz3:wo.heap.size < w2.heap.size:=by (have hz2:=hq2.size; omega)
        cases b2 with
        | false=>
          have HB2:=hid (RetB.not hb2)
          clear hb2
          go_wp2
          go_ret
          exact RetB.no (fun h=>HB2.out (h.1 k hlt _ HX.out).2.1) (by (repeat (first | with_reducible exact QJ _ | with_reducible assumption | with_reducible apply Nw.alloc | with_reducible apply Nw.drew | with_reducible apply Nw.drewN | (with_reducible refine QX ?_ ?_; focus (first | (simp; done) | (simp; omega))) | with_reducible refine Zg (by assumption) ?_)))
        | true=>
          have HB2:=hid (hb2.1 rfl)
          clear hb2
          have hbx:w2.cell? ⟨wo.heap.size,0,none⟩=some (.string s):=by go_simp
          have hN2:Nw w w2:=by (repeat (first | with_reducible exact QJ _ | with_reducible assumption | with_reducible apply Nw.alloc | with_reducible apply Nw.drew | with_reducible apply Nw.drewN | (with_reducible refine QX ?_ ?_; focus (first | (simp; done) | (simp; omega))) | with_reducible refine Zg (by assumption) ?_))
          have hk9:k≤c:=by omega
          clear hc1 hf1 hc2 hf2 c0 c1 hq1 hq2
          go_wp2
          go_loopw [28] (fun i wi=>∃m:Nat,m≤k∧i= .int .i64 m∧(∀j y,j < m→xs[j]? =some y→y.1≠s)∧Nw w2 wi) (fun i _=>k - (intOf i).toNat)
          case atStart=>exact ⟨0,aR _,rfl,fun j y h=>absurd h (by omega),QJ _⟩
          case round=>
            obtain ⟨m,hm2,rfl,hno,hqi⟩:=hrel
            have HN:=hid hno
            clear hno
            obtain ⟨hci,hfi⟩:=hqi.cells
            have hzi:wo.heap.size < wr.heap.size:=by have:=hqi.size; omega
            by_cases hlm:m < k
            · obtain ⟨b', o', u0, u1, e', hy, d0, d1⟩ := ((hr.nw hN2).nw hqi).at2 rfl (aa (show m < xs.length by omega))
              have HYm:=hid (aa (show m < xs.length by omega))
              generalize hym:xs[m]=y at*
              clear hym
              obtain ⟨t,n'⟩:=y
              obtain ⟨s0,s1⟩:=hy.open2 rfl
              obtain ⟨rfl, -⟩:=s0.str_
              obtain ⟨rfl, -⟩:=s1.int_
              simp only[bk,Addr.mk.injEq,and_true] at e'
              obtain ⟨rfl,rfl⟩:=e'
              clear hy s0 s1
              go_wp2
              · rename_i he
                go_ret
                exact RetB.no (fun h=>(h.1 k hlt _ HX.out).2.2 m _ hlm HYm.out (QlK he).symm) (by (repeat (first | with_reducible exact QJ _ | with_reducible assumption | with_reducible apply Nw.alloc | with_reducible apply Nw.drew | with_reducible apply Nw.drewN | (with_reducible refine QX ?_ ?_; focus (first | (simp; done) | (simp; omega))) | with_reducible refine Zg (by assumption) ?_)))
              · go_roundw
                case rel=>
                  rename_i he
                  exact ⟨m+1,by omega,by go_num,fun j y hj hy=>by
                    by_cases e:j=m
                    · subst e
                      rw[HYm.out] at hy
                      cases hy
                      exact fun e=>QqC he e.symm
                    · exact HN.out j y (by omega) hy,by (repeat (first | with_reducible exact QJ _ | with_reducible assumption | with_reducible apply Nw.alloc | with_reducible apply Nw.drew | with_reducible apply Nw.drewN | (with_reducible refine QX ?_ ?_; focus (first | (simp; done) | (simp; omega))) | with_reducible refine Zg (by assumption) ?_))⟩
                case measure=>simp[intOf]; omega
            · go_wp2
              go_roundw
              case rel=>exact ⟨k+1,by omega,by go_num,SigOkAt.step HY.out (fun x hx=>by
                rw[HX.out] at hx
                cases hx
                exact ⟨HB1.out,HB2.out,fun j y hj hy=>HN.out j y (by omega) hy⟩),by (repeat (first | with_reducible exact QJ _ | with_reducible assumption | with_reducible apply Nw.alloc | with_reducible apply Nw.drew | with_reducible apply Nw.drewN | (with_reducible refine QX ?_ ?_; focus (first | (simp; done) | (simp; omega))) | with_reducible refine Zg (by assumption) ?_))⟩
              case measure=>simp[intOf]; omega
    · have : k = xs.length := by omega
      subst this
      go_wp2_with (go_at_call 132; refine (Vh _ _ _ _).mono ?_; rintro e w1 ⟨b,rfl,hb,hq1⟩)
      go_ret
      exact RetB.of (hb.trans ⟨fun h=>⟨HY.out,by omega,by omega⟩,fun h=>by have:=h.2; omega⟩) (hq.trans hq1)
theorem Jc:Qe Tryz.prog 244:=fun args W=>Qc Tryz.func244 (by kernel_rfl) rfl args W
theorem Qau (v0 v1:Value)(x:Qz)(g:Nat)(s:ByteArray)(W:World)(hx:Rep YR W [v0,v1] x)(hb:W.cell? ⟨g,0,none⟩=some (.string s)):
    Calls Tryz.prog 244 #[.agg #[v0,v1], .pointer (some ⟨g,0,none⟩)] W (RetB (x.1=s) W):=by
  obtain ⟨t,n⟩:=x
  obtain ⟨r0,r1⟩:=hx.open2 rfl
  obtain ⟨rfl, -⟩:=r0.str_
  obtain ⟨rfl, -⟩:=r1.int_
  have hg:g < W.heap.size:=World.block_lt_of_cell? W _ hb
  clear hx r0 r1
  by_cases h:t=s
  · have h2 := QmV h
    have H:=hid h
    clear h
    go_enter Tryz.func244,Tryz.ntmps244
    go_wp2
    go_ret
    exact RetB.of (by simp only[h2,H.out]) ((QJ _).alloc _)
  · have h2 := QlO h
    have H:=hid h
    clear h
    go_enter Tryz.func244,Tryz.ntmps244
    go_wp2
    go_ret
    exact RetB.of (by simp only[h2,H.out]; simp) ((QJ _).alloc _)
theorem Qb0 (v:Value)(xs:List Qz)(w:World)(hr:Rep (.sl 203 YR) w [v] xs):Calls Tryz.prog 153 #[v] w (RetB (Y3 xs) w):=by
  obtain ⟨A,c,rfl,hl,hc⟩:=hr.slv
  have hm:xs.length≤9223372036854775807:=by unfold maxLen at hc; omega
  go_enter Tryz.func153,Tryz.ntmps153
  go_wp2
  go_loopw [7] (fun i wr=>∃k:Nat,k≤xs.length∧i= .int .i64 k∧(∀j,j < k→SigOkAt xs j)∧Nw w wr) (fun i _=>xs.length - (intOf i).toNat)
  case atStart=>exact ⟨0,aR _,rfl,fun j h=>absurd h (by omega),QJ _⟩
  case round=>
    obtain ⟨wo,rfl⟩:∃wo:World,wo=wr:=⟨_,rfl⟩
    obtain ⟨k,hk,rfl,hyes,hq⟩:=hrel
    have HY:=hid hyes
    clear hyes
    by_cases hlt:k < xs.length
    · obtain ⟨b, o, v0, v1, rfl, hx, c0, c1⟩ := (hr.nw hq).at2 rfl (aa hlt)
      have HX:=hid (aa hlt)
      generalize hxk:xs[k]=x at*
      clear hxk
      obtain ⟨s,n⟩:=x
      obtain ⟨r0,r1⟩:=hx.open2 rfl
      obtain ⟨rfl,hs⟩:=r0.str_
      obtain ⟨rfl, -⟩:=r1.int_
      have Hs:=hid hs
      clear hx r0 r1 hs
      go_wp2_with fail
      refine (QhJ s _ Hs.out).mono ?_
      rintro e w1 ⟨b1,rfl,hb1,hq1⟩
      obtain ⟨hc1,hf1⟩:=hq1.cells
      have hz1:wo.heap.size < w1.heap.size:=by (have hz2:=hq1.size; simp at hz2; omega)
      cases b1 with
      | false=>
        have HB1:=hid (RetB.not hb1)
        clear hb1
        go_wp2
        go_ret
        exact RetB.no (fun h=>HB1.out (h.1 k hlt _ HX.out).1) (by (repeat (first | with_reducible exact QJ _ | with_reducible assumption | with_reducible apply Nw.alloc | with_reducible apply Nw.drew | with_reducible apply Nw.drewN | (with_reducible refine QX ?_ ?_; focus (first | (simp; done) | (simp; omega))) | with_reducible refine Zg (by assumption) ?_)))
      | true=>
        have HB1:=hid (hb1.1 rfl)
        clear hb1
        go_wp2_with fail
        refine (KT n _ _ _).mono ?_
        rintro e w2 ⟨b2,rfl,hb2,hq2⟩
        obtain ⟨hc2,hf2⟩:=hq2.cells
        have hz3:wo.heap.size < w2.heap.size:=by (have hz2:=hq2.size; omega)
        cases b2 with
        | false=>
          have HB2:=hid (RetB.not hb2)
          clear hb2
          go_wp2
          go_ret
          exact RetB.no (fun h=>HB2.out (h.1 k hlt _ HX.out).2.1) (by (repeat (first | with_reducible exact QJ _ | with_reducible assumption | with_reducible apply Nw.alloc | with_reducible apply Nw.drew | with_reducible apply Nw.drewN | (with_reducible refine QX ?_ ?_; focus (first | (simp; done) | (simp; omega))) | with_reducible refine Zg (by assumption) ?_)))
        | true=>
          have HB2:=hid (hb2.1 rfl)
          clear hb2
          have hbx:w2.cell? ⟨wo.heap.size,0,none⟩=some (.string s):=by go_simp
          have hN2:Nw w w2:=by (repeat (first | with_reducible exact QJ _ | with_reducible assumption | with_reducible apply Nw.alloc | with_reducible apply Nw.drew | with_reducible apply Nw.drewN | (with_reducible refine QX ?_ ?_; focus (first | (simp; done) | (simp; omega))) | with_reducible refine Zg (by assumption) ?_))
          have hk9:k≤c:=by omega
          have HBX:=hid hbx
          clear hc1 hf1 hc2 hf2 c0 c1 hq1 hq2 hbx
          go_wp2_with fail
          refine (VX (fun y=>y.1=s) (xs.take k) _ _ _ _ ((hr.nw hN2).cut hk c hk9 hc) Jc ?_).mono ?_
          · intro i y W u0 u1 hi hqW hy
            exact Qau u0 u1 y _ s W hy (by rw[(hqW.cells).1 _ _ hz3]; exact HBX.out)
          · rintro e w3 ⟨b3, rfl, hb3, hq3⟩
            cases b3 with
            | false=>
              have HB3:=hid (RetB.not hb3)
              clear hb3
              go_wp2
              go_roundw
              case rel=>exact ⟨k+1,by omega,by go_num,SigOkAt.step HY.out (fun x hx=>by
                rw[HX.out] at hx
                cases hx
                refine ⟨HB1.out,HB2.out,fun j y hj hy e=>HB3.out ⟨y, ?_,e⟩⟩
                exact ap (i:=j) (by rw[be,if_pos hj]; exact hy)),by (repeat (first | with_reducible exact QJ _ | with_reducible assumption | with_reducible apply Nw.alloc | with_reducible apply Nw.drew | with_reducible apply Nw.drewN | (with_reducible refine QX ?_ ?_; focus (first | (simp; done) | (simp; omega))) | with_reducible refine Zg (by assumption) ?_))⟩
              case measure=>simp[intOf]; omega
            | true=>
              have HB3:=hid (hb3.1 rfl)
              clear hb3
              go_wp2
              go_ret
              refine RetB.no (fun h=> ?_) (by (repeat (first | with_reducible exact QJ _ | with_reducible assumption | with_reducible apply Nw.alloc | with_reducible apply Nw.drew | with_reducible apply Nw.drewN | (with_reducible refine QX ?_ ?_; focus (first | (simp; done) | (simp; omega))) | with_reducible refine Zg (by assumption) ?_)))
              obtain ⟨y,hy,e⟩:=HB3.out
              obtain ⟨j,hj⟩:=aM.1 hy
              rw[be] at hj
              split at hj
              · exact (h.1 k hlt _ HX.out).2.2 j y (by assumption) hj e
              · cases hj
    · have : k = xs.length := by omega
      subst this
      go_wp2_with (go_at_call 94; refine (KT _ _ _ _).mono ?_; rintro e w1 ⟨b,rfl,hb,hq1⟩)
      go_ret
      exact RetB.of (hb.trans ⟨fun h=>⟨HY.out,by omega,by omega⟩,fun h=>by have:=h.2; omega⟩) (hq.trans hq1)
end Go.Proofs.YtfkmmpfdncopdaaGreat
namespace Go.Proofs.YtfkmmpfdncopdaaGreat
set_option maxHeartbeats 4000000
set_option maxRecDepth 100000
open Go.RowKit
def QsS (n:Int)(l:List ByteArray):Prop:=(∀c∈l,QkU c∧(c.size:Int)=n)∧(1≤n∧n≤8)∧l.length≤60
end Go.Proofs.YtfkmmpfdncopdaaGreat
namespace Go.Proofs.YtfkmmpfdncopdaaGreat
set_option maxHeartbeats 4000000
set_option maxRecDepth 100000
open Go.RowKit
theorem QcL (w:World)(g:Nat)(c:Array Value)(T:TypeId)(fr:Nat×Nat)(i:Nat)(h:w.heap[g]? =some (.cells c T fr)):w.cell? ⟨g,i,none⟩=c[i]? :=by
  simp only[World.cell?,h]; rfl
theorem Qiz (w:World)(c1:Array Value)(T1:TypeId):∃W0,W0=w.alloc (.cells c1 T1)∧Nw w W0∧(∀i,W0.cell? ⟨w.heap.size,i,none⟩=c1[i]?)∧W0.heap.size=w.heap.size+1:=
  ⟨_,rfl,(QJ _).alloc _,fun i=>QcL _ _ _ _ _ i (heap_alloc_new w _),by simp⟩
end Go.Proofs.YtfkmmpfdncopdaaGreat
namespace Go.Proofs.YtfkmmpfdncopdaaGreat
set_option maxHeartbeats 4000000
set_option maxRecDepth 100000
open Go.RowKit
def RisAt (l:List Int)(hi:Int)(k:Nat):Prop:=∀x,l[k]? =some x→(0≤x∧x≤hi)∧∀j y,j+1=k→l[j]? =some y→y < x
def Uy (l:List Int)(hi:Int):Prop:=∀k,k < l.length→RisAt l hi k
theorem RisAt.step {l:List Int}{hi:Int}{k:Nat}(h:∀j,j < k→RisAt l hi j)(hk:RisAt l hi k):∀j,j < k+1→RisAt l hi j:=by
  intro j hj
  by_cases e:j=k
  · subst e; exact hk
  · exact h j (by omega)
def QsL (hi:Int)(t:QP):Prop:=t.1≠[]∧Uy t.1 hi∧Uy t.2 hi
def Y1 (n:Y0):Prop:=(1≤n.1∧n.1≤30)∧n.2.length≤24∧∀t∈n.2,QsL (n.1 - 1) t
def Qsq (c:UInt8):Prop:=c.toNat=48∨c.toNat=49
def BitsAt (s:ByteArray)(k:Nat):Prop:=∀h:k < s.size,Qsq s[k]
def JX (s:ByteArray)(n:Int):Prop:=(∀k,k < s.size→BitsAt s k)∧(s.size:Int)=n
theorem QeU (v:Value)(l:List Int)(hi:Int)(w:World)(hr:Rep (.sl 3 .int) w [v] l):
    Calls Tryz.prog 337 #[v, .int .i64 0, .int .i64 hi] w (RetB (Uy l hi) w):=by
  obtain ⟨A,c,rfl,hl,hc⟩:=hr.slv
  have hm:l.length≤9223372036854775807:=by unfold maxLen at hc; omega
  go_enter Tryz.func337,Tryz.ntmps337
  go_wp2
  go_loopw [11] (fun i wr=>∃k:Nat,k≤l.length∧i= .int .i64 k∧(∀j,j < k→RisAt l hi j)∧Nw w wr) (fun i _=>l.length - (intOf i).toNat)
  case atStart=>exact ⟨0,aR _,rfl,fun j h=>absurd h (by omega),QJ _⟩
  case round=>
    obtain ⟨k,hk,rfl,hyes,hq⟩:=hrel
    have HY:=hid hyes
    clear hyes
    by_cases hlt:k < l.length
    · obtain ⟨b, o, v0, rfl, hx, c0⟩ := (hr.nw hq).at1 rfl (aa hlt)
      have HX:=hid (aa hlt)
      generalize hxk:l[k]=x at*
      clear hxk
      obtain ⟨rfl, -⟩:=hx.int_
      clear hx
      go_wp2_with fail
      refine (Vh _ _ _ _).mono ?_
      rintro e w1 ⟨b1,rfl,hb1,hq1⟩
      obtain ⟨hc1,hf1⟩:=hq1.cells
      cases b1 with
      | false=>
        have HB:=hid (RetB.not hb1)
        clear hb1
        go_wp2
        go_ret
        exact RetB.no (fun h=>HB.out ((h k hlt _ HX.out).1)) (hq.trans hq1)
      | true=>
        have HB:=hid (hb1.1 rfl)
        clear hb1
        by_cases hk0:k=0
        · subst hk0
          go_wp2
          go_roundw
          case rel=>exact ⟨1,by omega,by go_num,RisAt.step HY.out (fun y hy=>by
            rw[HX.out] at hy
            cases hy
            exact ⟨HB.out,fun j y hj=>absurd hj (by omega)⟩),hq.trans hq1⟩
          case measure=>simp[intOf]; omega
        · obtain ⟨m, hm1⟩ : ∃ m, k = m + 1 := ⟨k - 1, by omega⟩
          have hkm:(k:Int) - 1=m:=by omega
          have hkp:(0:Int) < k:=by omega
          have hml:m < l.length:=by omega
          obtain ⟨b',o',y0,e',hy,d0⟩:=((hr.nw hq).nw hq1).at1 rfl (aa hml)
          simp only[bk,Addr.mk.injEq,and_true] at e'
          obtain ⟨rfl,rfl⟩:=e'
          have HYm:=hid (aa hml)
          generalize hym:l[m]=y at*
          clear hym
          obtain ⟨rfl, -⟩:=hy.int_
          clear hy
          by_cases hyx:x≤y
          · have hd := aJ hyx
            have HM:=hid (And.intro hm1 hyx)
            clear hm1 hyx
            go_wp2
            go_ret
            exact RetB.no (fun h=>by have:=(h k hlt _ HX.out).2 m _ (HM.out.1).symm HYm.out; have:=HM.out.2; omega) (hq.trans hq1)
          · have hd := ay hyx
            have HM:=hid (And.intro hm1 hyx)
            clear hm1 hyx
            go_wp2
            go_roundw
            case rel=>exact ⟨k+1,by omega,by go_num,RisAt.step HY.out (fun z hz=>by
              rw[HX.out] at hz
              cases hz
              exact ⟨HB.out,fun j y hj hy=>by
                obtain ⟨h1,h2⟩:=HM.out
                have:j=m:=by omega
                subst this
                rw[HYm.out] at hy
                cases hy
                omega⟩),hq.trans hq1⟩
            case measure=>simp[intOf]; omega
    · have : k = l.length := by omega
      subst this
      go_wp2
      go_ret
      exact RetB.yes (HY.out) hq
end Go.Proofs.YtfkmmpfdncopdaaGreat
namespace Go.Proofs.YtfkmmpfdncopdaaGreat
set_option maxHeartbeats 4000000
set_option maxRecDepth 100000
open Go.RowKit
theorem QcE (v:Value)(l:List Int)(hi:Int)(w:World)(hr:Rep (.sl 3 .int) w [v] l):
    Calls Tryz.prog 288 #[v, .int .i64 hi] w (RetB (Uy l hi) w):=by
  obtain ⟨A,c,rfl,hl,hc⟩:=hr.slv
  go_enter Tryz.func288,Tryz.ntmps288
  go_wp2_with fail
  refine (QeU _ l _ _ hr).mono ?_
  rintro e w1 ⟨b,rfl,hb,hq⟩
  go_wp2
  go_ret
  exact RetB.of hb hq
def TrAt (hi:Int)(ts:List QP)(k:Nat):Prop:=∀t,ts[k]? =some t→QsL hi t
theorem TrAt.step {hi:Int}{ts:List QP}{k:Nat}(h:∀j,j < k→TrAt hi ts j)(hk:TrAt hi ts k):∀j,j < k+1→TrAt hi ts j:=by
  intro j hj
  by_cases e:j=k
  · subst e; exact hk
  · exact h j (by omega)
theorem Qo0 {p hi:Int}{ts:List QP}(hh:IntKind.i64.wrap (p - 1)=hi)(h:∀j,j < ts.length→TrAt hi ts j)(h1:1≤p∧p≤30)(h2:ts.length≤24):Y1 (p,ts):=by
  have:hi=p - 1:=by rw[← hh]; exact IntWalk.i64_in _ (by omega)
  refine ⟨h1,h2,fun t ht=> ?_⟩
  obtain ⟨j,hj⟩:=aM.1 ht
  have:=h j (ah.1 hj).1 t hj
  simp_all
theorem Qpc {p hi:Int}{ts:List QP}(hh:IntKind.i64.wrap (p - 1)=hi)(h:Y1 (p,ts)){k:Nat}:TrAt hi ts k:=by
  have h1:=h.1
  have:hi=p - 1:=by rw[← hh]; exact IntWalk.i64_in _ (by omega)
  subst this
  exact fun t ht=>h.2.2 t (ap ht)
theorem Qa9 (a0 a1:Value)(n:Y0)(w:World)(hn:Rep Hm w [a0,a1] n):
    Calls Tryz.prog 231 #[.agg #[a0,a1]] w (RetB (Y1 n) w):=by
  obtain ⟨p,ts⟩:=n
  obtain ⟨rP,rT⟩:=hn.open2 rfl
  dsimp only at rP rT
  obtain ⟨rfl,hp1,hp2⟩:=rP.int_
  obtain ⟨A,c,rfl,hl,hc⟩:=rT.slv
  have hm:ts.length≤9223372036854775807:=by unfold maxLen at hc; omega
  obtain ⟨hi,hhi⟩:∃hi,IntKind.i64.wrap (p - 1)=hi:=⟨_,rfl⟩
  have HNO:=hid (fun (h:Y1 (p,ts)) (k:Nat)=>Qpc hhi h (k:=k))
  have HYES:=hid (fun h1 h2 h3=>Qo0 (ts:=ts) hhi h1 h2 h3)
  generalize hPP:Y1 (p,ts)=PP at*
  have HPP:=hid hPP
  clear hPP rP
  go_enter Tryz.func231,Tryz.ntmps231
  go_wp2
  go_loopw [8] (fun i wr=>∃k:Nat,k≤ts.length∧i= .int .i64 k∧(∀j,j < k→TrAt hi ts j)∧Nw w wr∧wr.cell? ⟨w.heap.size,0,none⟩=some (.int .i64 p)∧wr.cell? ⟨w.heap.size,1,none⟩=some (.slice A ts.length c)∧w.heap.size < wr.heap.size) (fun i _=>ts.length - (intOf i).toNat)
  case atStart=>exact ⟨0,aR _,rfl,fun j h=>absurd h (by omega),by (repeat (first | with_reducible exact QJ _ | with_reducible assumption | with_reducible apply Nw.alloc | with_reducible apply Nw.drew | with_reducible apply Nw.drewN | (with_reducible refine QX ?_ ?_; focus (first | (simp; done) | (simp; omega))) | with_reducible refine Zg (by assumption) ?_)),by go_simp,by go_simp,by simp⟩
  case round=>
    obtain ⟨wo,rfl⟩:∃wo:World,wo=wr:=⟨_,rfl⟩
    obtain ⟨k,hk,rfl,hyes,hq,d0,d1,hs⟩:=hrel
    have HY:=hid hyes
    clear hyes
    by_cases hlt:k < ts.length
    · obtain ⟨b, o, v0, v1, rfl, hx, c0, c1⟩ := (rT.nw hq).at2 rfl (aa hlt)
      have HX:=hid (aa hlt)
      generalize hxk:ts[k]=x at*
      clear hxk
      obtain ⟨pre,post⟩:=x
      obtain ⟨r0,r1⟩:=hx.open2 rfl
      dsimp only at r0 r1
      obtain ⟨A0,cc0,rfl, -, -⟩:=r0.slv
      obtain ⟨A1,cc1,rfl, -, -⟩:=r1.slv
      rcases pre with _ | ⟨q,pre⟩
      · go_wp2
        go_ret
        exact RetB.no (fun h=>(HNO.out h k _ HX.out).1 rfl) (by (repeat (first | with_reducible exact QJ _ | with_reducible assumption | with_reducible apply Nw.alloc | with_reducible apply Nw.drew | with_reducible apply Nw.drewN | (with_reducible refine QX ?_ ?_; focus (first | (simp; done) | (simp; omega))) | with_reducible refine Zg (by assumption) ?_)))
      · have hne : ((((q :: pre).length : Nat) : Int) == 0) = false := Kc (by simp only [au]; omega)
        generalize hqp:q :: pre=pr at*
        go_wp2_with fail
        obtain ⟨W1,hW1⟩:∃W1,W1=wo.alloc (.cells #[.slice A0 pr.length cc0, .slice A1 post.length cc1] 237):=⟨_,rfl⟩
        have e0:W1.cell? ⟨wo.heap.size,1,none⟩=some (.slice A1 post.length cc1):=by rw[hW1]; go_simp
        have e1:W1.cell? ⟨w.heap.size,0,none⟩=some (.int .i64 p):=by rw[hW1]; go_simp
        have e2:W1.cell? ⟨w.heap.size,1,none⟩=some (.slice (some ⟨b,o,none⟩) ts.length c):=by rw[hW1]; go_simp
        have hN1:Nw wo W1:=by rw[hW1]; exact (QJ _).alloc _
        have hs1:wo.heap.size < W1.heap.size:=by rw[hW1]; simp
        have hs2:w.heap.size < W1.heap.size:=by omega
        rw[← hW1]
        clear hW1 c0 c1 d0 d1
        refine (QcE _ pr _ _ (r0.nw hN1)).mono ?_
        rintro e w1 ⟨b1,rfl,hb1,hq1⟩
        obtain ⟨hc1,hf1⟩:=hq1.cells
        cases b1 with
        | false=>
          have HB:=hid (RetB.not hb1)
          clear hb1
          go_wp2
          go_ret
          exact RetB.no (fun h=>HB.out (HNO.out h k _ HX.out).2.1) ((hq.trans hN1).trans hq1)
        | true=>
          have HB:=hid (hb1.1 rfl)
          clear hb1
          go_wp2_with fail
          refine (QcE _ post _ _ ((r1.nw hN1).nw hq1)).mono ?_
          rintro e w2 ⟨b2,rfl,hb2,hq2⟩
          have hN2:=hq1.trans hq2
          clear hc1 hf1
          obtain ⟨hc1,hf1⟩:=hN2.cells
          cases b2 with
          | false=>
            have HB2:=hid (RetB.not hb2)
            clear hb2
            go_wp2
            go_ret
            exact RetB.no (fun h=>HB2.out (HNO.out h k _ HX.out).2.2) ((hq.trans hN1).trans hN2)
          | true=>
            have HB2:=hid (hb2.1 rfl)
            clear hb2
            have hs3:w.heap.size < w2.heap.size:=by have:=hN2.size; omega
            have HQP:=hid hqp
            clear hqp
            go_wp2
            go_roundw
            case rel=>exact ⟨k+1,by omega,by go_num,TrAt.step HY.out (fun y hy=>by
              rw[HX.out] at hy
              cases hy
              exact ⟨by rw[← HQP.out]; simp,HB.out,HB2.out⟩),(hq.trans hN1).trans hN2,by rw[hc1 _ _ hs2]; exact e1,by rw[hc1 _ _ hs2]; exact e2,hs3⟩
            case measure=>simp[intOf]; omega
    · have : k = ts.length := by omega
      subst this
      go_wp2_with fail
      refine (Vh _ _ _ _).mono ?_
      rintro e w1 ⟨b1,rfl,hb1,hq1⟩
      obtain ⟨hc1,hf1⟩:=hq1.cells
      cases b1 with
      | false=>
        have HB:=hid (RetB.not hb1)
        clear hb1
        go_wp2
        go_ret
        exact RetB.no (fun h=>by rw[← HPP.out] at h; exact HB.out h.1) (hq.trans hq1)
      | true=>
        have HB:=hid (hb1.1 rfl)
        clear hb1
        by_cases h24:ts.length≤24
        · have hd : decide ((ts.length : Int) ≤ 24) = true := aJ (by omega)
          have H24:=hid h24
          clear h24
          go_wp2
          go_ret
          exact RetB.yes (by rw[← HPP.out]; exact HPP.out▸(HPP.out▸HYES.out HY.out HB.out H24.out)) (hq.trans hq1)
        · have hd : decide ((ts.length : Int) ≤ 24) = false := ay (by omega)
          have H24:=hid h24
          clear h24
          go_wp2
          go_ret
          exact RetB.no (fun h=>by rw[← HPP.out] at h; exact H24.out h.2.1) (hq.trans hq1)
end Go.Proofs.YtfkmmpfdncopdaaGreat
namespace Go.Proofs.YtfkmmpfdncopdaaGreat
set_option maxHeartbeats 4000000
set_option maxRecDepth 100000
open Go.RowKit
theorem BitsAt.step {s:ByteArray}{k:Nat}(h:∀j,j < k→BitsAt s j)(hk:BitsAt s k):∀j,j < k+1→BitsAt s j:=by
  intro j hj
  by_cases e:j=k
  · subst e; exact hk
  · exact h j (by omega)
theorem QgA (a0 a1:Value)(n:Y0)(s:ByteArray)(w:World)(hn:Rep Hm w [a0,a1] n)(hs:s.size≤maxLen):
    Calls Tryz.prog 232 #[.agg #[a0,a1], .string s] w (RetB (JX s n.1) w):=by
  have hm:s.size≤9223372036854775807:=hs
  obtain ⟨p,ts⟩:=n
  obtain ⟨rP,rT⟩:=hn.open2 rfl
  dsimp only at rP rT ⊢
  obtain ⟨rfl,hp1,hp2⟩:=rP.int_
  obtain ⟨A,c,rfl,hl,hc⟩:=rT.slv
  clear rP rT hn
  go_enter Tryz.func232,Tryz.ntmps232
  go_wp2
  go_loop [5] (fun i=>∃k:Nat,k≤s.size∧i= .int .i64 k∧∀j,j < k→BitsAt s j) (fun i=>s.size - (intOf i).toNat)
  case atStart=>exact ⟨0,aR _,rfl,fun j h=>absurd h (by omega)⟩
  case round=>
    obtain ⟨k,hk,rfl,hyes⟩:=hrel
    have HY:=hid hyes
    clear hyes
    by_cases hlt:k < s.size
    · rcases (by omega : s[k].toNat = 48 ∨ s[k].toNat = 49 ∨ (s[k].toNat ≠ 48 ∧ s[k].toNat ≠ 49)) with h | h | ⟨h, h'⟩
      · have e1 := Qdy (a := (s[k].toNat : Int)) (b := 48) (by omega)
        have H:=hid (show BitsAt s k from fun _=> .inl h)
        clear h
        go_wp2
        go_round
        case rel=>exact ⟨k+1,by omega,by go_num,BitsAt.step HY.out H.out⟩
        case measure=>simp[intOf]; omega
      · have e1 := QcC (a := (s[k].toNat : Int)) (b := 48) (by omega)
        have e2:=Qdy (a:=(s[k].toNat:Int)) (b:=49) (by omega)
        have H:=hid (show BitsAt s k from fun _=> .inr h)
        clear h
        go_wp2
        go_round
        case rel=>exact ⟨k+1,by omega,by go_num,BitsAt.step HY.out H.out⟩
        case measure=>simp[intOf]; omega
      · have e1 := QcC (a := (s[k].toNat : Int)) (b := 48) (by omega)
        have e2:=QcC (a:=(s[k].toNat:Int)) (b:=49) (by omega)
        have H:=hid (show¬JX s p from fun hb=>by rcases hb.1 k hlt hlt with e | e <;> contradiction)
        clear h h'
        go_wp2
        go_ret
        exact RetB.no H.out (by (repeat (first | with_reducible exact QJ _ | with_reducible assumption | with_reducible apply Nw.alloc | with_reducible apply Nw.drew | with_reducible apply Nw.drewN | (with_reducible refine QX ?_ ?_; focus (first | (simp; done) | (simp; omega))) | with_reducible refine Zg (by assumption) ?_)))
    · have : k = s.size := by omega
      subst this
      by_cases hp:(s.size:Int)=p
      · have e1 := Qcq hp
        have H:=hid (show JX s p from ⟨fun j hj=>HY.out j hj,hp⟩)
        clear hp
        go_wp2
        go_ret
        exact RetB.of (by simp only[e1,H.out]) (by (repeat (first | with_reducible exact QJ _ | with_reducible assumption | with_reducible apply Nw.alloc | with_reducible apply Nw.drew | with_reducible apply Nw.drewN | (with_reducible refine QX ?_ ?_; focus (first | (simp; done) | (simp; omega))) | with_reducible refine Zg (by assumption) ?_)))
      · have e1 := Kc hp
        have H:=hid (show¬JX s p from fun h=>hp h.2)
        clear hp
        go_wp2
        go_ret
        exact RetB.of (by simp only[e1,bQ,false_iff]; exact H.out) (by (repeat (first | with_reducible exact QJ _ | with_reducible assumption | with_reducible apply Nw.alloc | with_reducible apply Nw.drew | with_reducible apply Nw.drewN | (with_reducible refine QX ?_ ?_; focus (first | (simp; done) | (simp; omega))) | with_reducible refine Zg (by assumption) ?_)))
end Go.Proofs.YtfkmmpfdncopdaaGreat
namespace Go.Proofs.YtfkmmpfdncopdaaGreat
set_option maxHeartbeats 4000000
set_option maxRecDepth 100000
open Go.RowKit
theorem Rep.pr_flat {a b c d e:Ty}{w:World}{u0 u1 u2 u3 u4:Value}{x:((a.Den×b.Den)×c.Den×d.Den×e.Den)}(h:Rep (.pr (.pr a b) (.pr c (.pr d e))) w [u0,u1,u2,u3,u4] x)(ha:a.wd=1)(hb:b.wd=1)(hc:c.wd=1)(hd:d.wd=1):
    Rep a w [u0] x.1.1∧Rep b w [u1] x.1.2∧Rep c w [u2] x.2.1∧Rep d w [u3] x.2.2.1∧Rep e w [u4] x.2.2.2:=by
  obtain ⟨h1,h2⟩:=h.pr2 (show (Ty.pr a b).wd=2 by simp[Ty.wd,ha,hb])
  obtain ⟨h3,h4⟩:=h1.open2 ha
  obtain ⟨h5,h6,h7⟩:=h2.open3 hc hd
  exact ⟨h3,h4,h5,h6,h7⟩
theorem Rep.pr_net {a b c d e:Ty}{w:World}{u0 u1 u2 u3 u4:Value}{x:((a.Den×b.Den)×c.Den×d.Den×e.Den)}(h:Rep (.pr (.pr a b) (.pr c (.pr d e))) w [u0,u1,u2,u3,u4] x)(ha:a.wd=1)(hb:b.wd=1):Rep (.pr a b) w [u0,u1] x.1:=
  (h.pr2 (show (Ty.pr a b).wd=2 by simp[Ty.wd,ha,hb])).1
def Qdp (m:Nat)(l:ZF):Prop:=(0≤l.1∧l.1≤(m:Int) - 1)∨(l.1= -1∧l.2=false)
structure StgOk (s:Zq):Prop where
  net:Y1 s.1
  sigs:Y3 s.2.1
  len:s.2.2.1.length=s.1.2.length
  labs:∀l∈s.2.2.1,Qdp s.2.1.length l
  bits:JX s.2.2.2 s.1.1
theorem Qgt (s:Int)(up:Bool)(m:Nat)(w:World)(hm:m≤9223372036854775807):
    Calls Tryz.prog 230 #[.agg #[.int .i64 s, .bool up], .int .i64 m] w (RetB (Qdp m (s,up)) w):=by
  go_enter Tryz.func230,Tryz.ntmps230
  obtain ⟨W0,hW0,hN0,hcA,hsz⟩:=Qiz w #[.int .i64 s, .bool up] 120
  have a0:=hcA 0
  have a1:=hcA 1
  simp only[List.getElem?_toArray,bO,List.getElem?_cons_succ] at a0 a1
  have hs0:w.heap.size < W0.heap.size:=by omega
  clear hcA hsz
  have ew:IntKind.i64.wrap ((m:Int) - 1)=(m:Int) - 1:=IntWalk.i64_in _ (by omega)
  go_wp2_with fail
  rw[← hW0]
  have HW:=hid hW0
  clear hW0
  refine (Vh _ _ _ _).mono ?_
  rintro e w1 ⟨b1,rfl,hb1,hq1⟩
  obtain ⟨hc1,hf1⟩:=hq1.cells
  cases b1 with
  | true=>
    have HB:=hid (hb1.1 rfl)
    clear hb1
    go_wp2
    go_ret
    exact RetB.yes (.inl HB.out) (hN0.trans hq1)
  | false=>
    have HB:=hid (RetB.not hb1)
    clear hb1
    by_cases hs:s= -1
    · have e1 := Qcq hs
      have HS:=hid hs
      clear hs
      cases up with
      | true=>
        go_wp2
        go_ret
        exact RetB.no (fun h=>by rcases h with h | ⟨_,h⟩; exact HB.out h; cases h) (hN0.trans hq1)
      | false=>
        go_wp2
        go_ret
        exact RetB.yes (.inr ⟨HS.out,rfl⟩) (hN0.trans hq1)
    · have e1 := Kc hs
      have HS:=hid hs
      clear hs
      go_wp2
      go_ret
      exact RetB.no (fun h=>by rcases h with h | ⟨h,_⟩; exact HB.out h; exact HS.out h) (hN0.trans hq1)
def LabAt (m:Nat)(ls:List ZF)(k:Nat):Prop:=∀x,ls[k]? =some x→Qdp m x
theorem LabAt.step {m:Nat}{ls:List ZF}{k:Nat}(h:∀j,j < k→LabAt m ls j)(hk:LabAt m ls k):∀j,j < k+1→LabAt m ls j:=by
  intro j hj
  by_cases e:j=k
  · subst e; exact hk
  · exact h j (by omega)
theorem Qkv {m:Nat}{ls:List ZF}(h:∀j,j < ls.length→LabAt m ls j):∀l∈ls,Qdp m l:=by
  intro l hl
  obtain ⟨j,hj⟩:=aM.1 hl
  exact h j (ah.1 hj).1 l hj
theorem Qil (a0 a1 a2 a3 a4:Value)(s:Zq)(w:World)(hn:Rep Qah w [a0,a1,a2,a3,a4] s):
    Calls Tryz.prog 141 #[.agg #[a0,a1,a2,a3,a4]] w (RetB (StgOk s) w):=by
  have rN:=hn.pr_net rfl rfl
  obtain ⟨⟨p,ts⟩,ss,ls,st⟩:=s
  obtain ⟨rP,rT,rS,rL,rM⟩:=hn.pr_flat rfl rfl rfl rfl
  dsimp only at rP rT rS rL rM rN
  obtain ⟨rfl, -, -⟩:=rP.int_
  obtain ⟨AT,cT,rfl,hlT,hcT⟩:=rT.slv
  obtain ⟨AS,cS,rfl,hlS,hcS⟩:=rS.slv
  obtain ⟨AL,cL,rfl,hlL,hcL⟩:=rL.slv
  obtain ⟨rfl,hst⟩:=rM.str_
  have hmT:ts.length≤9223372036854775807:=by unfold maxLen at hcT; omega
  have hmS:ss.length≤9223372036854775807:=by unfold maxLen at hcS; omega
  have hmL:ls.length≤9223372036854775807:=by unfold maxLen at hcL; omega
  have HOK:=hid (fun (h:StgOk ((p,ts),ss,ls,st))=>h)
  have HYES:=hid (fun h1 h2 h3 h4 h5=>(StgOk.mk h1 h2 h3 h4 h5:StgOk ((p,ts),ss,ls,st)))
  generalize hPP:StgOk ((p,ts),ss,ls,st)=PP at*
  have HPP:=hid hPP
  clear hPP HOK rP rM
  obtain ⟨W0,hW0,hN0,hcA,hsz⟩:=Qiz w #[.int .i64 p, .slice AT ts.length cT, .slice AS ss.length cS, .slice AL ls.length cL, .string st] 83
  have a0:=hcA 0
  have a1:=hcA 1
  have a2:=hcA 2
  have a3:=hcA 3
  have a4:=hcA 4
  simp only[List.getElem?_toArray,bO,List.getElem?_cons_succ] at a0 a1 a2 a3 a4
  have hs0:w.heap.size < W0.heap.size:=by omega
  clear hcA hsz
  go_enter Tryz.func141,Tryz.ntmps141
  go_wp2
  rw[← hW0]
  have HW:=hid hW0
  clear hW0
  go_loopw [8] (fun i wr=>∃k:Nat,k≤ls.length∧i= .int .i64 k∧(∀j,j < k→LabAt ss.length ls j)∧Nw W0 wr) (fun i _=>ls.length - (intOf i).toNat)
  case atStart=>exact ⟨0,aR _,rfl,fun j h=>absurd h (by omega),QJ _⟩
  case round=>
    obtain ⟨wo,rfl⟩:∃wo:World,wo=wr:=⟨_,rfl⟩
    obtain ⟨k,hk,rfl,hyes,hq⟩:=hrel
    have HY:=hid hyes
    clear hyes
    obtain ⟨hc0,hf0⟩:=hq.cells
    have hsw:w.heap.size < wo.heap.size:=by have:=hq.size; omega
    by_cases hlt:k < ls.length
    · obtain ⟨b, o, v0, v1, rfl, hx, c0, c1⟩ := ((rL.nw hN0).nw hq).at2 rfl (aa hlt)
      have HX:=hid (aa hlt)
      generalize hxk:ls[k]=x at*
      clear hxk
      obtain ⟨sg,up⟩:=x
      obtain ⟨r0,r1⟩:=hx.open2 rfl
      dsimp only at r0 r1
      obtain ⟨rfl, -, -⟩:=r0.int_
      obtain rfl:=r1.bool_
      clear hx r0 r1
      go_wp2_with fail
      refine (Qgt _ _ _ _ hmS).mono ?_
      rintro e w1 ⟨b1,rfl,hb1,hq1⟩
      obtain ⟨hc1,hf1⟩:=hq1.cells
      cases b1 with
      | false=>
        have HB:=hid (RetB.not hb1)
        clear hb1
        go_wp2
        go_ret
        exact RetB.no (fun h=>by rw[← HPP.out] at h; exact HB.out (h.labs _ (ap HX.out))) (by (repeat (first | with_reducible exact QJ _ | with_reducible assumption | with_reducible apply Nw.alloc | with_reducible apply Nw.drew | with_reducible apply Nw.drewN | (with_reducible refine QX ?_ ?_; focus (first | (simp; done) | (simp; omega))) | with_reducible refine Zg (by assumption) ?_)))
      | true=>
        have HB:=hid (hb1.1 rfl)
        clear hb1
        go_wp2
        go_roundw
        case rel=>exact ⟨k+1,by omega,by go_num,LabAt.step HY.out (fun y hy=>by
          rw[HX.out] at hy
          cases hy
          exact HB.out),by (repeat (first | with_reducible exact QJ _ | with_reducible assumption | with_reducible apply Nw.alloc | with_reducible apply Nw.drew | with_reducible apply Nw.drewN | (with_reducible refine QX ?_ ?_; focus (first | (simp; done) | (simp; omega))) | with_reducible refine Zg (by assumption) ?_))⟩
        case measure=>simp[intOf]; omega
    · have : k = ls.length := by omega
      subst this
      go_wp2_with fail
      refine (Qa9 _ _ (p,ts) _ ((rN.nw hN0).nw hq)).mono ?_
      rintro e w1 ⟨b1,rfl,hb1,hq1⟩
      have hN1:Nw W0 w1:=hq.trans hq1
      clear hc0 hf0
      obtain ⟨hc1,hf1⟩:=hN1.cells
      cases b1 with
      | false=>
        have HB:=hid (RetB.not hb1)
        clear hb1
        go_wp2
        go_ret
        exact RetB.no (fun h=>by rw[← HPP.out] at h; exact HB.out h.net) (hN0.trans hN1)
      | true=>
        have HB:=hid (hb1.1 rfl)
        clear hb1
        go_wp2_with fail
        refine (KC _ ss _ (rS.nw (hN0.trans hN1))).mono ?_
        rintro e w2 ⟨b2,rfl,hb2,hq2⟩
        have hN2:=hN1.trans hq2
        clear hc1 hf1
        obtain ⟨hc1,hf1⟩:=hN2.cells
        cases b2 with
        | false=>
          have HB2:=hid (RetB.not hb2)
          clear hb2
          go_wp2
          go_ret
          exact RetB.no (fun h=>by rw[← HPP.out] at h; exact HB2.out h.sigs) (hN0.trans hN2)
        | true=>
          have HB2:=hid (hb2.1 rfl)
          clear hb2
          by_cases hll:ls.length=ts.length
          · have e1 : ((ls.length : Int) == (ts.length : Int)) = true := Qcq (by omega)
            have HLL:=hid hll
            clear hll
            go_wp2_with fail
            refine (QgA _ _ (p,ts) st _ (rN.nw (hN0.trans hN2)) hst).mono ?_
            rintro e w3 ⟨b3,rfl,hb3,hq3⟩
            have HB3:=hid hb3
            clear hb3
            go_wp2
            go_ret
            exact RetB.of (HB3.out.trans ⟨fun h=>by rw[← HPP.out]; exact HPP.out▸(HPP.out▸HYES.out HB.out HB2.out HLL.out (Qkv HY.out) h),fun h=>by rw[← HPP.out] at h; exact h.bits⟩) ((hN0.trans hN2).trans hq3)
          · have e1 : ((ls.length : Int) == (ts.length : Int)) = false := Kc (by omega)
            have HLL:=hid hll
            clear hll
            go_wp2
            go_ret
            exact RetB.no (fun h=>by rw[← HPP.out] at h; exact HLL.out h.len) (hN0.trans hN2)
end Go.Proofs.YtfkmmpfdncopdaaGreat
namespace Go.Proofs.YtfkmmpfdncopdaaGreat
set_option maxHeartbeats 4000000
set_option maxRecDepth 100000
open Go.RowKit
def JO (ops:Array Oper)(n:Nat):Bool:=
  (List.range n).all fun i=>match ops[i]? with
    | some o=>(o.after.all fun e=> !Region.binds .any e||decide (e.on < i))&&(match o.guard with | some (g,_)=>decide (g < n) | none=>true)
    | none=>false
def Qt1 (l:List Oper)(n:Nat):Bool:=
  decide (n < l.length)&&JO l.toArray n&&(List.range n).all (fun i=>Region.waitsFor .any l.toArray n i)&&Region.chainB .any l.toArray n&&
    Region.seqB .any l.toArray (l.length - n) n (Array.replicate n true++Array.replicate (l.length - n) false)
def Qt5 (P:Program)(l:List Oper)(n:Nat)(Q:Exit→Act→World→Prop):Exit→Act→World→Prop
  | .normal,a,w=>wpList P l.toArray Q (l.drop n) a w
  | e,a,w=>Q e a w
section
variable {P:Program}{Q:Exit→Act→World→Prop}{a:Act}{w:World}
theorem QfW {n g:Nat}{listed:Array Bool}(hs:listed.size=n)(b:Bool){i:Nat}(hi:i < n):(listed++Array.replicate g false).getD i b=listed.getD i b:=by
  simp[hi,hs,Array.getElem_append_left,show i < n+g by omega]
theorem QgM {ops:Array Oper}{n:Nat}{listed:Array Bool}(hH:JO ops n=true)(hs:listed.size=n)(hr:∀i,i < n→i∉Region.ready .any ops (listed++Array.replicate (ops.size - n) false))(hn:n≤ops.size):∀i,i < n→listed.getD i true=true:=by
  intro i
  induction i using Nat.strongRecOn with
  | _ i ih=>
    intro hi
    cases h:listed.getD i true with
    | true=>rfl
    | false=>
      refine absurd (mem_ready.2 ⟨by rw[QfW hs _ hi]; exact h, ?_⟩) (hr i hi)
      have h1:=aB.1 hH i (bY.2 hi)
      cases ho:ops[i]? with
      | none=>rw[ho] at h1; cases h1
      | some o=>
        rw[ho] at h1
        simp only[aL,Array.all_eq_true_iff_forall_mem,bS,bM,aV] at h1
        refine ⟨o,rfl,fun e he hb=> ?_⟩
        have h2:=h1.1 e he
        rw[hb] at h2
        have h3:e.on < i:=by simpa using h2
        rw[QfW hs _ (by omega)]
        have:=ih e.on h3 (by omega)
        have h4:e.on < listed.size:=by omega
        simpa [h4] using this
end
end Go.Proofs.YtfkmmpfdncopdaaGreat
namespace Go.Proofs.YtfkmmpfdncopdaaGreat
set_option maxHeartbeats 4000000
set_option maxRecDepth 100000
open Go.RowKit
structure Mw (B M:Nat) (w w':World):Prop where
  os:w'.os=w.os
  tape:w'.tape=w.tape
  output:w'.output=w.output
  size:w.heap.size≤w'.heap.size
  block:∀k,k < w.heap.size→(k < B∨M≤k)→w'.heap[k]? =w.heap[k]?
theorem Mw.nw {a w w':World}{B M:Nat}(h:Mw B M w w')(ha:Nw a w)(hB:a.heap.size≤B):Nw a w':=
  ⟨h.os.trans ha.os,h.tape.trans ha.tape,h.output.trans ha.output,bw ha.size h.size,fun k hk=>(h.block k (bh hk ha.size) (.inl (bh hk hB))).trans (Below.block ha k hk)⟩
theorem Mw.trans {a b c:World}{B M:Nat}(h:Mw B M a b)(k:Mw B M b c):Mw B M a c:=
  ⟨k.os.trans h.os,k.tape.trans h.tape,k.output.trans h.output,bw h.size k.size,fun g hg hx=>(k.block g (bh hg h.size) hx).trans (h.block g hg hx)⟩
theorem Mw.mono {B M B' M':Nat}{w w':World}(h:Mw B M w w')(hB:B'≤B)(hM:M≤M'):Mw B' M' w w':=
  ⟨h.os,h.tape,h.output,h.size,fun k hk hx=>h.block k hk (by omega)⟩
theorem Mw.cells {B M:Nat}{w w':World}(h:Mw B M w w'):(∀b o,b < w.heap.size→(b < B∨M≤b)→w'.cell? ⟨b,o,none⟩=w.cell? ⟨b,o,none⟩)∧
    (∀b o,b < w.heap.size→(b < B∨M≤b)→w'.frozen? ⟨b,o,none⟩=w.frozen? ⟨b,o,none⟩):=
  ⟨fun b o h1 h2=>World.cell?_of_block (h.block b h1 h2),fun b o h1 h2=>World.frozen?_of_block (h.block b h1 h2)⟩
structure ElemInfo (P:Program) (E:TypeId) (e:Ty):Prop where
  ex:∃i z,P.info? E=some i∧i.zero=some z∧i.size=e.wd∧i.bytes≤65536∧z.cells.size=e.wd
def WG (P:Program)(E:TypeId)(n:Nat):Bool:=match P.info? E with
  | some i=>match i.zero with
    | some z=>i.size==n&&decide (i.bytes≤65536)&&z.cells.size==n
    | none=>false
  | none=>false
theorem Qer {P:Program}{E:TypeId}{e:Ty}(h:WG P E e.wd=true):ElemInfo P E e:=by
  unfold WG at h
  cases hi:P.info? E with
  | none=>rw[hi] at h; cases h
  | some i=>
    rw[hi] at h
    simp only at h
    cases hz:i.zero with
    | none=>rw[hz] at h; cases h
    | some z=>
      rw[hz] at h
      simp only[aL,beq_iff_eq,aV] at h
      exact ⟨i,z,hi,hz,h.1.1,h.1.2,h.2⟩
section
variable {E:TypeId}{e:Ty}{w:World}
theorem Own.row {fp:List Nat}{v:Value}{xs:List e.Den}(h:Own (.sl E e) w fp [v] xs):∃cs fps,w.ownsRow 0 E e.wd v xs.length cs∧OwnL (Own e w) fps cs xs∧((v.ownBlock=none∧fp=[]∧fps=[])∨∃g,v.ownBlock=some g∧fp=g :: fps):=by
  rcases h with ⟨rfl,h,h'⟩ | ⟨g,cap,cur,fps,rfl,h1,h2,h3,h4,h5,h6⟩
  · subst h'
    simp only[aI,and_true] at h
    subst h
    exact ⟨[],[],World.ownsRow_nil _ _ _ _,⟨rfl,rfl⟩, .inl ⟨rfl,rfl,rfl⟩⟩
  · simp only [aI, and_true] at h1
    subst h1
    refine ⟨_,fps,⟨?_, .inr ⟨g,cap,cur,rfl,aR _,h2,h3,h4,h5,rfl⟩⟩,h6, .inr ⟨g,rfl,rfl⟩⟩
    exact h6.len
theorem Qcj {fps:List Nat}{v:Value}{cs:List Value}{xs:List e.Den}{n:Nat}(hn:n=xs.length)(h:w.ownsRow 0 E e.wd v n cs)(ho:OwnL (Own e w) fps cs xs):
    ∃fp,Own (.sl E e) w fp [v] xs∧((v.ownBlock=none∧fp=fps)∨∃g,v.ownBlock=some g∧fp=g :: fps):=by
  subst hn
  rcases h.2 with ⟨rfl,h0⟩ | ⟨g,cap,cur,rfl,_,h2,h3,h4,h5,h6⟩
  · obtain rfl := bB h0
    obtain ⟨rfl,_⟩:=ho
    exact ⟨[], .inl ⟨rfl,rfl,rfl⟩, .inl ⟨rfl,rfl⟩⟩
  · exact ⟨g :: fps, .inr ⟨g,cap,cur,fps,rfl,rfl,h2,h3,h4,h5,by rw[h6]; exact ho⟩, .inr ⟨g,rfl,rfl⟩⟩
theorem OwnL.one {fp:List Nat}:∀{xs:List e.Den} {fp:List Nat} {cs:List Value},OwnL (Own e w) fp cs xs→∀u∈cs,u.oneCell'=true
  | [],_,_,h=>by rw[h.2]; simp
  | _ :: _,_,_,⟨_,_,_,_,_,h2,h3,h4⟩=>by
    intro u hu
    rw[h2] at hu
    rcases aK.1 hu with hu | hu
    · exact Rep.one h3.rep u hu
    · exact OwnL.one (fp:=[]) h4 u hu
theorem OwnL.lt {xs:List e.Den}{fp:List Nat}{cs:List Value}(h:OwnL (Own e w) fp cs xs):∀g∈fp,g < w.heap.size:=by
  induction xs generalizing fp cs with
  | nil=>rw[h.1]; simp
  | cons x xs ih=>
    obtain ⟨f1,f2,c1,c2,rfl,rfl,h3,h4⟩:=h
    intro g hg
    rcases aK.1 hg with hg | hg
    · exact Own.lt h3 g hg
    · exact ih h4 g hg
variable {P:Program}
def Ty.flat:Ty→Bool
  | .pr a b=>a.flat&&b.flat
  | .sl _ _=>false
  | _=>true
theorem Rep.own:∀{t:Ty} {w:World} {cs:List Value} {x:t.Den},Rep t w cs x→t.flat=true→Own t w [] cs x
  | .int,_,_,_,h,_=>⟨rfl,h⟩
  | .bool,_,_,_,h,_=>⟨rfl,h⟩
  | .str,_,_,_,h,_=>⟨rfl,h⟩
  | .u8,_,_,_,h,_=>⟨rfl,h⟩
  | .vl,_,_,_,h,_=>⟨rfl,h⟩
  | .sl _ _,_,_,_,_,h=>by cases h
  | .pr a b,_,_,_,⟨l,r,h,h1,h2⟩,hf=>by
    simp only[Ty.flat,aL] at hf
    exact ⟨[],[],l,r,rfl,h,Rep.own h1 hf.1,Rep.own h2 hf.2⟩
theorem QbV (hf:e.flat=true)(b:Nat):∀(ys:List e.Den) (o:Nat),(∀i x,ys[i]? =some x→∃ds,Rep e w ds x∧∀j u,ds[j]? =some u→w.cell? ⟨b,o+i*e.wd+j,none⟩=some u)→
    ∃news,OwnL (Own e w) [] news ys∧∀j u,news[j]? =some u→w.cell? ⟨b,o+j,none⟩=some u
  | [],_,_=>⟨[],⟨rfl,rfl⟩,by simp⟩
  | y :: ys,o,h=>by
    obtain ⟨ds,h1,h2⟩:=h 0 y rfl
    obtain ⟨news,h3,h4⟩:=QbV hf b ys (o+e.wd) (fun i x hx=>by
      obtain ⟨ds',h5,h6⟩:=h (i+1) x hx
      refine ⟨ds',h5,fun j u hu=> ?_⟩
      rw[← h6 j u hu]
      congr 2
      rw[bD]
      omega)
    refine ⟨ds++news,⟨[],[],ds,news,rfl,rfl,h1.own hf,h3⟩,fun j u hu=> ?_⟩
    by_cases hj:j < ds.length
    · rw [bf hj] at hu
      have:=h2 j u hu
      simpa using this
    · rw [bj (by omega)] at hu
      rw[← h4 _ _ hu]
      congr 2
      have:=h1.len
      omega
theorem Rep.src {A:Option Addr}{n c M:Nat}{ys:List e.Den}(hr:Rep (.sl E e) w [.slice A n c] ys)(hf:e.flat=true):n=ys.length∧((A=none∧n=0)∨∃ad news,A=some ad∧FrsL e M M w news ys∧∀j u,news[j]? =some u→w.cell? (ad.add j)=some u):=by
  obtain ⟨A',c',h1,h2,h3,h4⟩:=hr
  simp only[aI,Value.slice.injEq,and_true] at h1
  obtain ⟨rfl,rfl,rfl⟩:=h1
  refine ⟨rfl, ?_⟩
  rcases Nat.eq_zero_or_pos ys.length with h0 | hp
  · cases A with
    | none=>exact .inl ⟨rfl,h0⟩
    | some ad=>
      obtain rfl:=bB h0
      exact .inr ⟨ad,[],rfl,⟨[],⟨rfl,rfl⟩,bt,by simp⟩,by simp⟩
  · obtain ⟨b, o, rfl, h5⟩ := h4 hp
    obtain ⟨news,h6,h7⟩:=QbV hf b ys o h5
    exact .inr ⟨⟨b,o,none⟩,news,rfl,⟨[],h6,bt,by simp⟩,fun j u hu=>by rw[Addr.add_lit]; exact h7 j u hu⟩
theorem Qrf (w:World)(E:TypeId)(e:Ty):Frs (.sl E e) w.heap.size (w.heap.size+1) (w.alloc (.cells #[] E)) [.slice (some ⟨w.heap.size,0,none⟩) 0 0] []:=
  ⟨[w.heap.size], .inr ⟨w.heap.size,0, #[],[],rfl,rfl,heap_alloc_new w _,aO _,aR _,by simp,by simpa using ⟨rfl,rfl⟩⟩,by simp,by simp⟩
end
end Go.Proofs.YtfkmmpfdncopdaaGreat
