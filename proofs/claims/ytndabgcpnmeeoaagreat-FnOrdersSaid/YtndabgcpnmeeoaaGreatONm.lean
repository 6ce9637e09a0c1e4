/- The small tests: ranges, names, cubes. -/
import Derived.Test.YtndabgcpnmeeoaaGreatOIdx
set_option linter.unusedSimpArgs false
set_option linter.unusedVariables false
set_option linter.unusedSectionVars false
namespace Go.Proofs.YtndabgcpnmeeoaaGreat
set_option maxHeartbeats 4000000
set_option maxRecDepth 100000
open Go.RowKit
theorem QsY {s t:ByteArray}(h:(s.toList==t.toList)=true):s=t:=by
 have h:s.toList=t.toList:=by simpa using h
 rw[bB,bB] at h
 cases s; cases t
 exact congrArg _ (Array.toList_inj.1 h)
theorem QwR {s t:ByteArray}(h:(s.toList==t.toList)=false):s≠t:=by
 rintro rfl
 simp at h
theorem Qs0 {s t:ByteArray}(h:s=t):(s.toList==t.toList)=true:=by subst h; simp
theorem QsZ {s t:ByteArray}(h:s≠t):(s.toList==t.toList)=false:=by
 cases e:(s.toList==t.toList) with
 | false=>rfl
 | true=>exact absurd (QsY e) h
def YY (k c:Nat):Prop:=(97≤c∧c≤122)∨(k≠0∧48≤c∧c≤57)
def KJ (s:ByteArray):Prop:=(∀k (h:k < s.size),YY k s[k].toNat)∧1≤s.size∧s.size≤6
def Qqp (c:Nat):Prop:=c=48∨c=49∨c=45
def QoK (s:ByteArray):Prop:=∀k (h:k < s.size),Qqp s[k].toNat
theorem W9 (n lo hi:Int)(w:World):Calls Tryz.prog 107 #[.int .i64 n, .int .i64 lo, .int .i64 hi] w (RetB (lo≤n∧n≤hi) w):=by
 by_cases a:lo≤n
 ·by_cases b:n≤hi
  all_goals
   go_enter Tryz.func107,Tryz.ntmps107
   go_wp2
   go_ret
   exact RetB.of (by simp; omega) (QM _)
 ·go_enter Tryz.func107,Tryz.ntmps107
  go_wp2
  go_ret
  exact RetB.of (by simp; omega) (QM _)
theorem Kt (n lo hi:Int)(w:World):Calls Tryz.prog 215 #[.int .i64 n, .int .i64 lo, .int .i64 hi] w (RetB (lo≤n∧n≤hi) w):=by
 by_cases a:lo≤n
 ·by_cases b:n≤hi
  all_goals
   go_enter Tryz.func215,Tryz.ntmps215
   go_wp2
   go_ret
   exact RetB.of (by simp; omega) (QM _)
 ·go_enter Tryz.func215,Tryz.ntmps215
  go_wp2
  go_ret
  exact RetB.of (by simp; omega) (QM _)
theorem Qg9 {s:ByteArray}{k:Nat}(h:k < s.size)(a:¬YY k s[k].toNat):¬KJ s:=fun b=>a (b.1 k h)
theorem Qag {s:ByteArray}{k:Nat}(h:k < s.size)(d:∀j (h:j < s.size),j < k→YY j s[j].toNat)(a:YY k s[k].toNat):∀j (h:j < s.size),j < k+1→YY j s[j].toNat:=by
 intro j b c
 by_cases e:j=k
 ·subst e; exact a
 ·exact d j b (by omega)
theorem Qmy (s:ByteArray)(w:World)(hs:s.size≤maxLen):Calls Tryz.prog 349 #[.string s] w (RetB (KJ s) w):=by
  have hm:s.size≤9223372036854775807:=hs
  go_enter Tryz.func349,Tryz.ntmps349
  go_wp2
  go_loop [3] (fun i=>∃k:Nat,k≤s.size∧i= .int .i64 k∧∀j (h:j < s.size),j < k→YY j s[j].toNat) (fun i=>s.size - (intOf i).toNat)
  case atStart=>exact ⟨0,aP _,rfl,fun j h h'=>absurd h' (by omega)⟩
  case round=>
    obtain ⟨k,hk,rfl,hyes⟩:=hrel
    have HY:=hid hyes
    clear hyes
    by_cases hlt:k < s.size
    · rcases (by omega : s[k].toNat < 48 ∨ (48 ≤ s[k].toNat ∧ s[k].toNat ≤ 57) ∨ (58 ≤ s[k].toNat ∧ s[k].toNat ≤ 96) ∨ (97 ≤ s[k].toNat ∧ s[k].toNat ≤ 122) ∨ 123 ≤ s[k].toNat) with h1 | ⟨h1, h2⟩ | ⟨h1, h2⟩ | ⟨h1, h2⟩ | h1
      all_goals first | have d0:decide ((97:Int)≤(s[k].toNat:Int))=true:=aY (by omega) | have d0:decide ((97:Int)≤(s[k].toNat:Int))=false:=aQ (by omega)
      all_goals first | have d1:decide ((s[k].toNat:Int)≤122)=true:=aY (by omega) | have d1:decide ((s[k].toNat:Int)≤122)=false:=aQ (by omega)
      all_goals first | have d2:decide ((48:Int)≤(s[k].toNat:Int))=true:=aY (by omega) | have d2:decide ((48:Int)≤(s[k].toNat:Int))=false:=aQ (by omega)
      all_goals first | have d3:decide ((s[k].toNat:Int)≤57)=true:=aY (by omega) | have d3:decide ((s[k].toNat:Int)≤57)=false:=aQ (by omega)
      all_goals first | have d4:decide ((s[k].toNat:Int) < 48)=true:=aY (by omega) | have d4:decide ((s[k].toNat:Int) < 48)=false:=aQ (by omega)
      all_goals first | have d5:decide ((57:Int) < (s[k].toNat:Int))=true:=aY (by omega) | have d5:decide ((57:Int) < (s[k].toNat:Int))=false:=aQ (by omega)
      all_goals rcases Nat.eq_zero_or_pos k with rfl | hk0
      all_goals try have hk1:((k:Int)==0)=false:=by simp; omega
      all_goals go_wp2
      all_goals first
        | (go_ret
           exact RetB.no (Qg9 hlt (by unfold YY; omega)) (QM _))
        | (go_round
           case rel=>exact ⟨_+1,by omega,by go_num,Qag hlt HY.out (by unfold YY; omega)⟩
           case measure=>simp[intOf]; omega)
    · have : k = s.size := by omega
      subst this
      go_wp2_with (go_at_call 215; refine (Kt _ _ _ _).mono ?_; rintro e w1 ⟨b,rfl,hb,hq1⟩)
      go_ret
      refine RetB.of (hb.trans ⟨fun h=>⟨fun j hj=>HY.out j hj hj,by omega,by omega⟩,fun h=>by have:=h.2; omega⟩) hq1
theorem Qmu (s:ByteArray)(w:World)(hs:s.size≤maxLen):Calls Tryz.prog 312 #[.string s] w (RetB (KJ s) w):=by
  have hm:s.size≤9223372036854775807:=hs
  go_enter Tryz.func312,Tryz.ntmps312
  go_wp2
  go_loopw [3] (fun i wr=>∃k:Nat,k≤s.size∧i= .int .i64 k∧(∀j (h:j < s.size),j < k→YY j s[j].toNat)∧Nw w wr) (fun i _=>s.size - (intOf i).toNat)
  case atStart=>exact ⟨0,aP _,rfl,fun j h h'=>absurd h' (by omega),QM _⟩
  case round=>
    obtain ⟨k,hk,rfl,hyes,hq⟩:=hrel
    have HY:=hid hyes
    clear hyes
    by_cases hlt:k < s.size
    · have hi0 : (0 : Int) ≤ k := by omega
      have hi1:(k:Int) < s.size:=by omega
      rcases (by omega:s[k].toNat < 48∨(48≤s[k].toNat∧s[k].toNat≤57)∨(58≤s[k].toNat∧s[k].toNat≤96)∨(97≤s[k].toNat∧s[k].toNat≤122)∨123≤s[k].toNat) with h1 | ⟨h1,h2⟩ | ⟨h1,h2⟩ | ⟨h1,h2⟩ | h1
      all_goals first | have d0:decide ((97:Int)≤(s[k].toNat:Int))=true:=aY (by omega) | have d0:decide ((97:Int)≤(s[k].toNat:Int))=false:=aQ (by omega)
      all_goals first | have d1:decide ((s[k].toNat:Int)≤122)=true:=aY (by omega) | have d1:decide ((s[k].toNat:Int)≤122)=false:=aQ (by omega)
      all_goals first | have d2:decide ((48:Int)≤(s[k].toNat:Int))=true:=aY (by omega) | have d2:decide ((48:Int)≤(s[k].toNat:Int))=false:=aQ (by omega)
      all_goals first | have d3:decide ((s[k].toNat:Int)≤57)=true:=aY (by omega) | have d3:decide ((s[k].toNat:Int)≤57)=false:=aQ (by omega)
      all_goals first | have d4:decide ((s[k].toNat:Int) < 48)=true:=aY (by omega) | have d4:decide ((s[k].toNat:Int) < 48)=false:=aQ (by omega)
      all_goals first | have d5:decide ((57:Int) < (s[k].toNat:Int))=true:=aY (by omega) | have d5:decide ((57:Int) < (s[k].toNat:Int))=false:=aQ (by omega)
      all_goals rcases Nat.eq_zero_or_pos k with rfl | hk0
      all_goals try have hk1:((k:Int)==0)=false:=by simp; omega
      all_goals go_wp2_with fail
      all_goals go_quiet (fail)
      all_goals go_wp2
      all_goals first
        | (go_ret
           exact RetB.no (Qg9 hlt (by unfold YY; omega)) (hq.drewN _))
        | (go_roundw
           case rel=>exact ⟨_+1,by omega,by go_num,Qag hlt HY.out (by unfold YY; omega),hq.drewN _⟩
           case measure=>simp[intOf]; omega)
    · have : k = s.size := by omega
      subst this
      go_wp2_with (go_at_call 107; refine (W9 _ _ _ _).mono ?_; rintro e w1 ⟨b,rfl,hb,hq1⟩)
      go_ret
      refine RetB.of (hb.trans ⟨fun h=>⟨fun j hj=>HY.out j hj hj,by omega,by omega⟩,fun h=>by have:=h.2; omega⟩) (hq.trans hq1)
theorem U8 {a b:Int}(h:a≠b):(a != b)=true:=by simpa using h
theorem Hr {a b:Int}(h:a=b):(a != b)=false:=by simpa using h
theorem U7 {a b:Int}(h:a=b):(a==b)=true:=by simpa using h
theorem X9 {a b:Int}(h:a≠b):(a==b)=false:=by simpa using h
end Go.Proofs.YtndabgcpnmeeoaaGreat
namespace Go.Proofs.YtndabgcpnmeeoaaGreat
set_option maxHeartbeats 4000000
set_option maxRecDepth 100000
open Go.RowKit
def SigOkAt (xs:List QB)(k:Nat):Prop:=∀x,xs[k]? =some x→KJ x.1∧(1≤x.2∧x.2≤3)∧∀j y,j < k→xs[j]? =some y→y.1≠x.1
def XM (xs:List QB):Prop:=(∀k,k < xs.length→SigOkAt xs k)∧1≤xs.length∧xs.length≤8
theorem SigOkAt.step {xs:List QB}{k:Nat}(h:∀j,j < k→SigOkAt xs j)(a:SigOkAt xs k):∀j,j < k+1→SigOkAt xs j:=by
 intro j b
 by_cases e:j=k
 ·subst e; exact a
 ·exact h j (by omega)
theorem Qae (v:Value)(xs:List QB)(w:World)(hr:Rep (.sl 77 Ye) w [v] xs):Calls Tryz.prog 214 #[v] w (RetB (XM xs) w):=by
 obtain ⟨A,c,rfl,hl,hc⟩:=hr.slv
 have hm:xs.length≤9223372036854775807:=by unfold maxLen at hc; omega
 go_enter Tryz.func214,Tryz.ntmps214
 go_wp2
 go_loopw [9] (fun i wr=>∃k:Nat,k≤xs.length∧i= .int .i64 k∧(∀j,j < k→SigOkAt xs j)∧Nw w wr) (fun i _=>xs.length - (intOf i).toNat)
 case atStart=>exact ⟨0,aP _,rfl,fun j h=>absurd h (by omega),QM _⟩
 case round=>
  obtain ⟨wo,rfl⟩:∃wo:World,wo=wr:=⟨_,rfl⟩
  obtain ⟨k,hk,rfl,hyes,hq⟩:=hrel
  have HY:=hid hyes
  clear hyes
  by_cases hlt:k < xs.length
  ·obtain ⟨b,o,v0,v1,rfl,hx,c0,c1⟩:=(hr.nw hq).at2 rfl (ap hlt)
   have HX:=hid (ap hlt)
   generalize hxk:xs[k]=x at*
   clear hxk
   obtain ⟨s,n⟩:=x
   obtain ⟨r0,r1⟩:=hx.open2 rfl
   obtain ⟨rfl,hs⟩:=r0.str_
   obtain ⟨rfl, -⟩:=r1.int_
   have Hs:=hid hs
   clear hx r0 r1 hs
   go_wp2_with fail
   refine (Qmy s _ Hs.out).mono ?_
   rintro e w1 ⟨b1,rfl,hb1,hq1⟩
   obtain ⟨hc1,hf1⟩:=hq1.cells
   have hz1:wo.heap.size < w1.heap.size:=by (have hz2:=hq1.size; simp at hz2; omega)
   cases b1 with
   | false=>
    have HB1:=hid (RetB.not hb1)
    clear hb1
    go_wp2
    go_ret
    exact RetB.no (fun h=>HB1.out (h.1 k hlt _ HX.out).1) (by (repeat (first | with_reducible exact QM _ | with_reducible assumption | with_reducible apply Nw.alloc | with_reducible apply Nw.drew | with_reducible apply Nw.drewN | (with_reducible refine Q2 ?_ ?_; focus (first | (simp; done) | (simp; omega))) | with_reducible refine Zn ‹_› ?_)))
   | true=>
    have HB1:=hid (hb1.1 rfl)
    clear hb1
    go_wp2_with fail
    refine (Kt n _ _ _).mono ?_
    rintro e w2 ⟨b2,rfl,hb2,hq2⟩
    obtain ⟨hc2,hf2⟩:=hq2.cells
    have hz3:wo.heap.size < w2.heap.size:=by (have hz2:=hq2.size; omega)
    cases b2 with
    | false=>
     have HB2:=hid (RetB.not hb2)
     clear hb2
     go_wp2
     go_ret
     exact RetB.no (fun h=>HB2.out (h.1 k hlt _ HX.out).2.1) (by (repeat (first | with_reducible exact QM _ | with_reducible assumption | with_reducible apply Nw.alloc | with_reducible apply Nw.drew | with_reducible apply Nw.drewN | (with_reducible refine Q2 ?_ ?_; focus (first | (simp; done) | (simp; omega))) | with_reducible refine Zn ‹_› ?_)))
    | true=>
     have HB2:=hid (hb2.1 rfl)
     clear hb2
     have hbx:w2.cell? ⟨wo.heap.size,0,none⟩=some (.string s):=by go_simp
     have hN2:Nw w w2:=by (repeat (first | with_reducible exact QM _ | with_reducible assumption | with_reducible apply Nw.alloc | with_reducible apply Nw.drew | with_reducible apply Nw.drewN | (with_reducible refine Q2 ?_ ?_; focus (first | (simp; done) | (simp; omega))) | with_reducible refine Zn ‹_› ?_))
     have hk9:k≤c:=by omega
     clear hc1 hf1 hc2 hf2 c0 c1 hq1 hq2
     go_wp2
     go_loopw [28] (fun i wi=>∃m:Nat,m≤k∧i= .int .i64 m∧(∀j y,j < m→xs[j]? =some y→y.1≠s)∧Nw w2 wi) (fun i _=>k - (intOf i).toNat)
     case atStart=>exact ⟨0,aP _,rfl,fun j y h=>absurd h (by omega),QM _⟩
     case round=>
      obtain ⟨m,hm2,rfl,hno,hqi⟩:=hrel
      have HN:=hid hno
      clear hno
      obtain ⟨hci,hfi⟩:=hqi.cells
      have hzi:wo.heap.size < wr.heap.size:=by have:=hqi.size; omega
      by_cases hlm:m < k
      ·obtain ⟨b',o',u0,u1,e',hy,d0,d1⟩:=((hr.nw hN2).nw hqi).at2 rfl (ap (show m < xs.length by omega))
       have HYm:=hid (ap (show m < xs.length by omega))
       generalize hym:xs[m]=y at*
       clear hym
       obtain ⟨t,n'⟩:=y
       obtain ⟨s0,s1⟩:=hy.open2 rfl
       obtain ⟨rfl, -⟩:=s0.str_
       obtain ⟨rfl, -⟩:=s1.int_
       simp only[bC,Addr.mk.injEq,and_true] at e'
       obtain ⟨rfl,rfl⟩:=e'
       clear hy s0 s1
       go_wp2
       ·rename_i he
        go_ret
        exact RetB.no (fun h=>(h.1 k hlt _ HX.out).2.2 m _ hlm HYm.out (QsY he).symm) (by (repeat (first | with_reducible exact QM _ | with_reducible assumption | with_reducible apply Nw.alloc | with_reducible apply Nw.drew | with_reducible apply Nw.drewN | (with_reducible refine Q2 ?_ ?_; focus (first | (simp; done) | (simp; omega))) | with_reducible refine Zn ‹_› ?_)))
       ·go_roundw
        case rel=>
         rename_i he
         exact ⟨m+1,by omega,by go_num,fun j y hj hy=>by
          by_cases e:j=m
          ·subst e
           rw[HYm.out] at hy
           cases hy
           exact fun e=>QwR he e.symm
          ·exact HN.out j y (by omega) hy,by (repeat (first | with_reducible exact QM _ | with_reducible assumption | with_reducible apply Nw.alloc | with_reducible apply Nw.drew | with_reducible apply Nw.drewN | (with_reducible refine Q2 ?_ ?_; focus (first | (simp; done) | (simp; omega))) | with_reducible refine Zn ‹_› ?_))⟩
        case measure=>simp[intOf]; omega
      ·go_wp2
       go_roundw
       case rel=>exact ⟨k+1,by omega,by go_num,SigOkAt.step HY.out (fun x hx=>by
        rw[HX.out] at hx
        cases hx
        exact ⟨HB1.out,HB2.out,fun j y hj hy=>HN.out j y (by omega) hy⟩),by (repeat (first | with_reducible exact QM _ | with_reducible assumption | with_reducible apply Nw.alloc | with_reducible apply Nw.drew | with_reducible apply Nw.drewN | (with_reducible refine Q2 ?_ ?_; focus (first | (simp; done) | (simp; omega))) | with_reducible refine Zn ‹_› ?_))⟩
       case measure=>simp[intOf]; omega
  ·have:k=xs.length:=by omega
   subst this
   go_wp2_with (go_at_call 215; refine (Kt _ _ _ _).mono ?_; rintro e w1 ⟨b,rfl,hb,hq1⟩)
   go_ret
   exact RetB.of (hb.trans ⟨fun h=>⟨HY.out,by omega,by omega⟩,fun h=>by have:=h.2; omega⟩) (hq.trans hq1)
theorem QaI:Qg Tryz.prog 314:=fun a W=>Qc Tryz.func314 (by kernel_rfl) rfl a W
theorem Qda (e f:Value)(x:QB)(g:Nat)(s:ByteArray)(W:World)(b:Rep Ye W [e,f] x)(hb:W.cell? ⟨g,0,none⟩=some (.string s)):
 Calls Tryz.prog 314 #[.agg #[e,f], .pointer (some ⟨g,0,none⟩)] W (RetB (x.1=s) W):=by
 obtain ⟨t,n⟩:=x
 obtain ⟨c,d⟩:=b.open2 rfl
 obtain ⟨rfl, -⟩:=c.str_
 obtain ⟨rfl, -⟩:=d.int_
 have i:g < W.heap.size:=cY W _ hb
 clear b c d
 by_cases h:t=s
 ·have a:=Qs0 h
  have H:=hid h
  clear h
  go_enter Tryz.func314,Tryz.ntmps314
  go_wp2
  go_ret
  exact RetB.of (by simp only[a,H.out]) ((QM _).alloc _)
 ·have a:=QsZ h
  have H:=hid h
  clear h
  go_enter Tryz.func314,Tryz.ntmps314
  go_wp2
  go_ret
  exact RetB.of (by simp only[a,H.out]; simp) ((QM _).alloc _)
theorem JK (v:Value)(xs:List QB)(w:World)(hr:Rep (.sl 77 Ye) w [v] xs):Calls Tryz.prog 176 #[v] w (RetB (XM xs) w):=by
 obtain ⟨A,c,rfl,hl,hc⟩:=hr.slv
 have hm:xs.length≤9223372036854775807:=by unfold maxLen at hc; omega
 go_enter Tryz.func176,Tryz.ntmps176
 go_wp2
 go_loopw [7] (fun i wr=>∃k:Nat,k≤xs.length∧i= .int .i64 k∧(∀j,j < k→SigOkAt xs j)∧Nw w wr) (fun i _=>xs.length - (intOf i).toNat)
 case atStart=>exact ⟨0,aP _,rfl,fun j h=>absurd h (by omega),QM _⟩
 case round=>
  obtain ⟨wo,rfl⟩:∃wo:World,wo=wr:=⟨_,rfl⟩
  obtain ⟨k,hk,rfl,hyes,hq⟩:=hrel
  have HY:=hid hyes
  clear hyes
  by_cases hlt:k < xs.length
  ·obtain ⟨b,o,v0,v1,rfl,hx,c0,c1⟩:=(hr.nw hq).at2 rfl (ap hlt)
   have HX:=hid (ap hlt)
   generalize hxk:xs[k]=x at*
   clear hxk
   obtain ⟨s,n⟩:=x
   obtain ⟨r0,r1⟩:=hx.open2 rfl
   obtain ⟨rfl,hs⟩:=r0.str_
   obtain ⟨rfl, -⟩:=r1.int_
   have Hs:=hid hs
   clear hx r0 r1 hs
   go_wp2_with fail
   refine (Qmu s _ Hs.out).mono ?_
   rintro e w1 ⟨b1,rfl,hb1,hq1⟩
   obtain ⟨hc1,hf1⟩:=hq1.cells
   have hz1:wo.heap.size < w1.heap.size:=by (have hz2:=hq1.size; simp at hz2; omega)
   cases b1 with
   | false=>
    have HB1:=hid (RetB.not hb1)
    clear hb1
    go_wp2
    go_ret
    exact RetB.no (fun h=>HB1.out (h.1 k hlt _ HX.out).1) (by (repeat (first | with_reducible exact QM _ | with_reducible assumption | with_reducible apply Nw.alloc | with_reducible apply Nw.drew | with_reducible apply Nw.drewN | (with_reducible refine Q2 ?_ ?_; focus (first | (simp; done) | (simp; omega))) | with_reducible refine Zn ‹_› ?_)))
   | true=>
    have HB1:=hid (hb1.1 rfl)
    clear hb1
    go_wp2_with fail
    refine (W9 n _ _ _).mono ?_
    rintro e w2 ⟨b2,rfl,hb2,hq2⟩
    obtain ⟨hc2,hf2⟩:=hq2.cells
    have hz3:wo.heap.size < w2.heap.size:=by (have hz2:=hq2.size; omega)
    cases b2 with
    | false=>
     have HB2:=hid (RetB.not hb2)
     clear hb2
     go_wp2
     go_ret
     exact RetB.no (fun h=>HB2.out (h.1 k hlt _ HX.out).2.1) (by (repeat (first | with_reducible exact QM _ | with_reducible assumption | with_reducible apply Nw.alloc | with_reducible apply Nw.drew | with_reducible apply Nw.drewN | (with_reducible refine Q2 ?_ ?_; focus (first | (simp; done) | (simp; omega))) | with_reducible refine Zn ‹_› ?_)))
    | true=>
     have HB2:=hid (hb2.1 rfl)
     clear hb2
     have hbx:w2.cell? ⟨wo.heap.size,0,none⟩=some (.string s):=by go_simp
     have hN2:Nw w w2:=by (repeat (first | with_reducible exact QM _ | with_reducible assumption | with_reducible apply Nw.alloc | with_reducible apply Nw.drew | with_reducible apply Nw.drewN | (with_reducible refine Q2 ?_ ?_; focus (first | (simp; done) | (simp; omega))) | with_reducible refine Zn ‹_› ?_))
     have hk9:k≤c:=by omega
     have HBX:=hid hbx
     clear hc1 hf1 hc2 hf2 c0 c1 hq1 hq2 hbx
     go_wp2_with fail
     refine (KQ (fun y=>y.1=s) (xs.take k) _ _ _ _ ((hr.nw hN2).cut hk c hk9 hc) QaI ?_).mono ?_
     ·intro i y W u0 u1 hi hqW hy
      exact Qda u0 u1 y _ s W hy (by rw[(hqW.cells).1 _ _ hz3]; exact HBX.out)
     ·rintro e w3 ⟨b3,rfl,hb3,hq3⟩
      cases b3 with
      | false=>
       have HB3:=hid (RetB.not hb3)
       clear hb3
       go_wp2
       go_roundw
       case rel=>exact ⟨k+1,by omega,by go_num,SigOkAt.step HY.out (fun x hx=>by
        rw[HX.out] at hx
        cases hx
        refine ⟨HB1.out,HB2.out,fun j y hj hy e=>HB3.out ⟨y, ?_,e⟩⟩
        exact ai (i:=j) (by rw[bw,if_pos hj]; exact hy)),by (repeat (first | with_reducible exact QM _ | with_reducible assumption | with_reducible apply Nw.alloc | with_reducible apply Nw.drew | with_reducible apply Nw.drewN | (with_reducible refine Q2 ?_ ?_; focus (first | (simp; done) | (simp; omega))) | with_reducible refine Zn ‹_› ?_))⟩
       case measure=>simp[intOf]; omega
      | true=>
       have HB3:=hid (hb3.1 rfl)
       clear hb3
       go_wp2
       go_ret
       refine RetB.no (fun h=> ?_) (by (repeat (first | with_reducible exact QM _ | with_reducible assumption | with_reducible apply Nw.alloc | with_reducible apply Nw.drew | with_reducible apply Nw.drewN | (with_reducible refine Q2 ?_ ?_; focus (first | (simp; done) | (simp; omega))) | with_reducible refine Zn ‹_› ?_)))
       obtain ⟨y,hy,e⟩:=HB3.out
       obtain ⟨j,hj⟩:=aO.1 hy
       rw[bw] at hj
       split at hj
       ·exact (h.1 k hlt _ HX.out).2.2 j y ‹_› hj e
       ·cases hj
  ·have:k=xs.length:=by omega
   subst this
   go_wp2_with (go_at_call 107; refine (W9 _ _ _ _).mono ?_; rintro e w1 ⟨b,rfl,hb,hq1⟩)
   go_ret
   exact RetB.of (hb.trans ⟨fun h=>⟨HY.out,by omega,by omega⟩,fun h=>by have:=h.2; omega⟩) (hq.trans hq1)
end Go.Proofs.YtndabgcpnmeeoaaGreat
namespace Go.Proofs.YtndabgcpnmeeoaaGreat
set_option maxHeartbeats 4000000
set_option maxRecDepth 100000
open Go.RowKit
def QyF (n:Int)(l:List ByteArray):Prop:=(∀c∈l,QoK c∧(c.size:Int)=n)∧(1≤n∧n≤8)∧l.length≤60
end Go.Proofs.YtndabgcpnmeeoaaGreat
namespace Go.Proofs.YtndabgcpnmeeoaaGreat
set_option maxHeartbeats 4000000
set_option maxRecDepth 100000
open Go.RowKit
theorem Qf9 (w:World)(g:Nat)(c:Array Value)(T:TypeId)(a:Nat×Nat)(i:Nat)(h:w.heap[g]? =some (.cells c T a)):w.cell? ⟨g,i,none⟩=c[i]? :=by
 simp only[World.cell?,h]; rfl
theorem K7 (w:World)(c1:Array Value)(b:TypeId):∃a,a=w.alloc (.cells c1 b)∧Nw w a∧(∀i,a.cell? ⟨w.heap.size,i,none⟩=c1[i]?)∧a.heap.size=w.heap.size+1:=
 ⟨_,rfl,(QM _).alloc _,fun i=>Qf9 _ _ _ _ _ i (heap_alloc_new w _),by simp⟩
def QyS (n:Int)(l:List Qxg):Prop:=∀p∈l,0≤p.1∧p.1≤n - 1
end Go.Proofs.YtndabgcpnmeeoaaGreat
namespace Go.Proofs.YtndabgcpnmeeoaaGreat
set_option maxHeartbeats 4000000
set_option maxRecDepth 100000
open Go.RowKit
def RisAt (l:List Int)(hi:Int)(k:Nat):Prop:=∀x,l[k]? =some x→(0≤x∧x≤hi)∧∀j y,j+1=k→l[j]? =some y→y < x
def JF (l:List Int)(hi:Int):Prop:=∀k,k < l.length→RisAt l hi k
theorem RisAt.step {l:List Int}{hi:Int}{k:Nat}(h:∀j,j < k→RisAt l hi j)(a:RisAt l hi k):∀j,j < k+1→RisAt l hi j:=by
 intro j b
 by_cases e:j=k
 ·subst e; exact a
 ·exact h j (by omega)
def Qtr (hi:Int)(t:Qt):Prop:=t.1≠[]∧JF t.1 hi∧JF t.2 hi
def YZ (n:Yh):Prop:=(1≤n.1∧n.1≤30)∧n.2.length≤24∧∀t∈n.2,Qtr (n.1 - 1) t
def Qxl (c:UInt8):Prop:=c.toNat=48∨c.toNat=49
def BitsAt (s:ByteArray)(k:Nat):Prop:=∀h:k < s.size,Qxl s[k]
def Xz (s:ByteArray)(n:Int):Prop:=(∀k,k < s.size→BitsAt s k)∧(s.size:Int)=n
theorem Qh2 (v:Value)(l:List Int)(hi:Int)(w:World)(F:Rep Qm w [v] l):
 Calls Tryz.prog 529 #[v, .int .i64 0, .int .i64 hi] w (RetB (JF l hi) w):=by
 obtain ⟨A,c,rfl,hl,N⟩:=F.slv
 have hm:l.length≤9223372036854775807:=by unfold maxLen at N; omega
 go_enter Tryz.func529,Tryz.ntmps529
 go_wp2
 go_loopw [11] (fun i T=>∃k:Nat,k≤l.length∧i= .int .i64 k∧(∀j,j < k→RisAt l hi j)∧Nw w T) (fun i _=>l.length - (intOf i).toNat)
 case atStart=>exact ⟨0,aP _,rfl,fun j h=>absurd h (by omega),QM _⟩
 case round=>
  obtain ⟨k,Z,rfl,q,r⟩:=hrel
  have D:=hid q
  clear q
  by_cases g:k < l.length
  ·obtain ⟨b,o,v0,rfl,K,V⟩:=(F.nw r).at1 rfl (ap g)
   have C:=hid (ap g)
   generalize G:l[k]=x at*
   clear G
   obtain ⟨rfl, -⟩:=K.int_
   clear K
   go_wp2_with fail
   refine (Kt _ _ _ _).mono ?_
   rintro e w1 ⟨M,rfl,f,a⟩
   obtain ⟨O,Q⟩:=a.cells
   cases M with
   | false=>
    have u:=hid (RetB.not f)
    clear f
    go_wp2
    go_ret
    exact RetB.no (fun h=>u.out ((h k g _ C.out).1)) (r.trans a)
   | true=>
    have u:=hid (f.1 rfl)
    clear f
    by_cases E:k=0
    ·subst E
     go_wp2
     go_roundw
     case rel=>exact ⟨1,by omega,by go_num,RisAt.step D.out (fun y p=>by
      rw[C.out] at p
      cases p
      exact ⟨u.out,fun j y J=>absurd J (by omega)⟩),r.trans a⟩
     case measure=>simp[intOf]; omega
    ·obtain ⟨m,n⟩:∃m,k=m+1:=⟨k - 1,by omega⟩
     have R:(k:Int) - 1=m:=by omega
     have S:(0:Int) < k:=by omega
     have t:m < l.length:=by omega
     obtain ⟨U,o',y0,I,p,W⟩:=((F.nw r).nw a).at1 rfl (ap t)
     simp only[bC,Addr.mk.injEq,and_true] at I
     obtain ⟨rfl,rfl⟩:=I
     have s:=hid (ap t)
     generalize H:l[m]=y at*
     clear H
     obtain ⟨rfl, -⟩:=p.int_
     clear p
     by_cases d:x≤y
     ·have P:=aY d
      have B:=hid (And.intro n d)
      clear n d
      go_wp2
      go_ret
      exact RetB.no (fun h=>by have:=(h k g _ C.out).2 m _ (B.out.1).symm s.out; have:=B.out.2; omega) (r.trans a)
     ·have P:=aQ d
      have B:=hid (And.intro n d)
      clear n d
      go_wp2
      go_roundw
      case rel=>exact ⟨k+1,by omega,by go_num,RisAt.step D.out (fun z L=>by
       rw[C.out] at L
       cases L
       exact ⟨u.out,fun j y J p=>by
        obtain ⟨X,Y⟩:=B.out
        have:j=m:=by omega
        subst this
        rw[s.out] at p
        cases p
        omega⟩),r.trans a⟩
      case measure=>simp[intOf]; omega
  ·have:k=l.length:=by omega
   subst this
   go_wp2
   go_ret
   exact RetB.yes (D.out) r
theorem Ks (v:Value)(l:List Int)(n hi:Int)(w:World)(G:Rep Qm w [v] l)(hn:IntKind.i64.wrap (n - 1)=hi):
 Calls Tryz.prog 476 #[v, .int .i64 n] w (RetB (JF l hi) w):=by
 obtain ⟨A,c,rfl,hl,O⟩:=G.slv
 have hm:l.length≤9223372036854775807:=by unfold maxLen at O; omega
 go_enter Tryz.func476,Tryz.ntmps476
 go_wp2
 go_loopw [9] (fun i U=>∃k:Nat,k≤l.length∧i= .int .i64 k∧(∀j,j < k→RisAt l hi j)∧Nw w U) (fun i _=>l.length - (intOf i).toNat)
 case atStart=>exact ⟨0,aP _,rfl,fun j h=>absurd h (by omega),QM _⟩
 case round=>
  obtain ⟨k,hk,rfl,r,s⟩:=hrel
  have E:=hid r
  clear r
  by_cases g:k < l.length
  ·obtain ⟨b,o,v0,rfl,L,W⟩:=(G.nw s).at1 rfl (ap g)
   have D:=hid (ap g)
   generalize H:l[k]=x at*
   clear H
   obtain ⟨rfl, -⟩:=L.int_
   clear L
   go_wp2_with fail
   refine (W9 _ _ _ _).mono ?_
   rintro e w1 ⟨N,rfl,f,a⟩
   obtain ⟨P,R⟩:=a.cells
   cases N with
   | false=>
    have B:=hid (RetB.not f)
    clear f
    go_wp2
    go_ret
    exact RetB.no (fun h=>B.out ((h k g _ D.out).1)) (s.trans a)
   | true=>
    have B:=hid (f.1 rfl)
    clear f
    by_cases F:k=0
    ·subst F
     go_wp2
     go_roundw
     case rel=>exact ⟨1,by omega,by go_num,RisAt.step E.out (fun y q=>by
      rw[D.out] at q
      cases q
      exact ⟨B.out,fun j y K=>absurd K (by omega)⟩),s.trans a⟩
     case measure=>simp[intOf]; omega
    ·obtain ⟨m,p⟩:∃m,k=m+1:=⟨k - 1,by omega⟩
     have S:(k:Int) - 1=m:=by omega
     have T:(0:Int) < k:=by omega
     have u:m < l.length:=by omega
     obtain ⟨V,o',y0,J,q,X⟩:=((G.nw s).nw a).at1 rfl (ap u)
     simp only[bC,Addr.mk.injEq,and_true] at J
     obtain ⟨rfl,rfl⟩:=J
     have t:=hid (ap u)
     generalize I:l[m]=y at*
     clear I
     obtain ⟨rfl, -⟩:=q.int_
     clear q
     by_cases d:x≤y
     ·have Q:=aY d
      have C:=hid (And.intro p d)
      clear p d
      go_wp2
      go_ret
      exact RetB.no (fun h=>by have:=(h k g _ D.out).2 m _ (C.out.1).symm t.out; have:=C.out.2; omega) (s.trans a)
     ·have Q:=aQ d
      have C:=hid (And.intro p d)
      clear p d
      go_wp2
      go_roundw
      case rel=>exact ⟨k+1,by omega,by go_num,RisAt.step E.out (fun z M=>by
       rw[D.out] at M
       cases M
       exact ⟨B.out,fun j y K q=>by
        obtain ⟨Y,Z⟩:=C.out
        have:j=m:=by omega
        subst this
        rw[t.out] at q
        cases q
        omega⟩),s.trans a⟩
      case measure=>simp[intOf]; omega
  ·have:k=l.length:=by omega
   subst this
   go_wp2
   go_ret
   exact RetB.yes (E.out) s
end Go.Proofs.YtndabgcpnmeeoaaGreat
namespace Go.Proofs.YtndabgcpnmeeoaaGreat
set_option maxHeartbeats 4000000
set_option maxRecDepth 100000
open Go.RowKit
theorem Qfm (v:Value)(l:List Int)(hi:Int)(w:World)(a:Rep Qm w [v] l):
 Calls Tryz.prog 472 #[v, .int .i64 hi] w (RetB (JF l hi) w):=by
 obtain ⟨A,c,rfl,h,g⟩:=a.slv
 go_enter Tryz.func472,Tryz.ntmps472
 go_wp2_with fail
 refine (Qh2 _ l _ _ a).mono ?_
 rintro e i ⟨b,rfl,d,f⟩
 go_wp2
 go_ret
 exact RetB.of d f
def TrAt (hi:Int)(ts:List Qt)(k:Nat):Prop:=∀t,ts[k]? =some t→Qtr hi t
theorem TrAt.step {hi:Int}{ts:List Qt}{k:Nat}(h:∀j,j < k→TrAt hi ts j)(a:TrAt hi ts k):∀j,j < k+1→TrAt hi ts j:=by
 intro j b
 by_cases e:j=k
 ·subst e; exact a
 ·exact h j (by omega)
theorem QnW {p hi:Int}{ts:List Qt}(d:IntKind.i64.wrap (p - 1)=hi)(h:∀j,j < ts.length→TrAt hi ts j)(b:1≤p∧p≤30)(c:ts.length≤24):YZ (p,ts):=by
 have:hi=p - 1:=by rw[← d]; exact IntWalk.i64_in _ (by omega)
 refine ⟨b,c,fun t e=> ?_⟩
 obtain ⟨j,a⟩:=aO.1 e
 have:=h j (ah.1 a).1 t a
 simp_all
theorem QnV {p hi:Int}{ts:List Qt}(a:IntKind.i64.wrap (p - 1)=hi)(h:YZ (p,ts)){k:Nat}:TrAt hi ts k:=by
 have c:=h.1
 have:hi=p - 1:=by rw[← a]; exact IntWalk.i64_in _ (by omega)
 subst this
 exact fun t b=>h.2.2 t (ai b)
theorem Qfl (a0 a1:Value)(n:Yh)(w:World)(hn:Rep Uz w [a0,a1] n):
 Calls Tryz.prog 375 #[.agg #[a0,a1]] w (RetB (YZ n) w):=by
 obtain ⟨p,ts⟩:=n
 obtain ⟨rP,rT⟩:=hn.open2 rfl
 dsimp only at rP rT
 obtain ⟨rfl,hp1,hp2⟩:=rP.int_
 obtain ⟨A,c,rfl,hl,hc⟩:=rT.slv
 have hm:ts.length≤9223372036854775807:=by unfold maxLen at hc; omega
 obtain ⟨hi,hhi⟩:∃hi,IntKind.i64.wrap (p - 1)=hi:=⟨_,rfl⟩
 have HNO:=hid (fun (h:YZ (p,ts)) (k:Nat)=>QnV hhi h (k:=k))
 have HYES:=hid (fun h1 h2 h3=>QnW (ts:=ts) hhi h1 h2 h3)
 generalize hPP:YZ (p,ts)=PP at*
 have HPP:=hid hPP
 clear hPP rP
 go_enter Tryz.func375,Tryz.ntmps375
 go_wp2
 go_loopw [8] (fun i wr=>∃k:Nat,k≤ts.length∧i= .int .i64 k∧(∀j,j < k→TrAt hi ts j)∧Nw w wr∧wr.cell? ⟨w.heap.size,0,none⟩=some (.int .i64 p)∧wr.cell? ⟨w.heap.size,1,none⟩=some (.slice A ts.length c)∧w.heap.size < wr.heap.size) (fun i _=>ts.length - (intOf i).toNat)
 case atStart=>exact ⟨0,aP _,rfl,fun j h=>absurd h (by omega),by (repeat (first | with_reducible exact QM _ | with_reducible assumption | with_reducible apply Nw.alloc | with_reducible apply Nw.drew | with_reducible apply Nw.drewN | (with_reducible refine Q2 ?_ ?_; focus (first | (simp; done) | (simp; omega))) | with_reducible refine Zn ‹_› ?_)),by go_simp,by go_simp,by simp⟩
 case round=>
  obtain ⟨wo,rfl⟩:∃wo:World,wo=wr:=⟨_,rfl⟩
  obtain ⟨k,hk,rfl,hyes,hq,d0,d1,hs⟩:=hrel
  have HY:=hid hyes
  clear hyes
  by_cases hlt:k < ts.length
  ·obtain ⟨b,o,v0,v1,rfl,hx,c0,c1⟩:=(rT.nw hq).at2 rfl (ap hlt)
   have HX:=hid (ap hlt)
   generalize hxk:ts[k]=x at*
   clear hxk
   obtain ⟨pre,post⟩:=x
   obtain ⟨r0,r1⟩:=hx.open2 rfl
   dsimp only at r0 r1
   obtain ⟨A0,cc0,rfl, -, -⟩:=r0.slv
   obtain ⟨A1,cc1,rfl, -, -⟩:=r1.slv
   rcases pre with _ | ⟨q,pre⟩
   ·go_wp2
    go_ret
    exact RetB.no (fun h=>(HNO.out h k _ HX.out).1 rfl) (by (repeat (first | with_reducible exact QM _ | with_reducible assumption | with_reducible apply Nw.alloc | with_reducible apply Nw.drew | with_reducible apply Nw.drewN | (with_reducible refine Q2 ?_ ?_; focus (first | (simp; done) | (simp; omega))) | with_reducible refine Zn ‹_› ?_)))
   ·have hne:((((q :: pre).length:Nat):Int)==0)=false:=X9 (by simp only[aq]; omega)
    generalize hqp:q :: pre=pr at*
    go_wp2_with fail
    obtain ⟨W1,hW1⟩:∃W1,W1=wo.alloc (.cells #[.slice A0 pr.length cc0, .slice A1 post.length cc1] 275):=⟨_,rfl⟩
    have e0:W1.cell? ⟨wo.heap.size,1,none⟩=some (.slice A1 post.length cc1):=by rw[hW1]; go_simp
    have e1:W1.cell? ⟨w.heap.size,0,none⟩=some (.int .i64 p):=by rw[hW1]; go_simp
    have e2:W1.cell? ⟨w.heap.size,1,none⟩=some (.slice (some ⟨b,o,none⟩) ts.length c):=by rw[hW1]; go_simp
    have hN1:Nw wo W1:=by rw[hW1]; exact (QM _).alloc _
    have hs1:wo.heap.size < W1.heap.size:=by rw[hW1]; simp
    have hs2:w.heap.size < W1.heap.size:=by omega
    rw[← hW1]
    clear hW1 c0 c1 d0 d1
    refine (Qfm _ pr _ _ (r0.nw hN1)).mono ?_
    rintro e w1 ⟨b1,rfl,hb1,hq1⟩
    obtain ⟨hc1,hf1⟩:=hq1.cells
    cases b1 with
    | false=>
     have HB:=hid (RetB.not hb1)
     clear hb1
     go_wp2
     go_ret
     exact RetB.no (fun h=>HB.out (HNO.out h k _ HX.out).2.1) ((hq.trans hN1).trans hq1)
    | true=>
     have HB:=hid (hb1.1 rfl)
     clear hb1
     go_wp2_with fail
     refine (Qfm _ post _ _ ((r1.nw hN1).nw hq1)).mono ?_
     rintro e w2 ⟨b2,rfl,hb2,hq2⟩
     have hN2:=hq1.trans hq2
     clear hc1 hf1
     obtain ⟨hc1,hf1⟩:=hN2.cells
     cases b2 with
     | false=>
      have HB2:=hid (RetB.not hb2)
      clear hb2
      go_wp2
      go_ret
      exact RetB.no (fun h=>HB2.out (HNO.out h k _ HX.out).2.2) ((hq.trans hN1).trans hN2)
     | true=>
      have HB2:=hid (hb2.1 rfl)
      clear hb2
      have hs3:w.heap.size < w2.heap.size:=by have:=hN2.size; omega
      have HQP:=hid hqp
      clear hqp
      go_wp2
      go_roundw
      case rel=>exact ⟨k+1,by omega,by go_num,TrAt.step HY.out (fun y hy=>by
       rw[HX.out] at hy
       cases hy
       exact ⟨by rw[← HQP.out]; simp,HB.out,HB2.out⟩),(hq.trans hN1).trans hN2,by rw[hc1 _ _ hs2]; exact e1,by rw[hc1 _ _ hs2]; exact e2,hs3⟩
      case measure=>simp[intOf]; omega
  ·have:k=ts.length:=by omega
   subst this
   go_wp2_with fail
   refine (Kt _ _ _ _).mono ?_
   rintro e w1 ⟨b1,rfl,hb1,hq1⟩
   obtain ⟨hc1,hf1⟩:=hq1.cells
   cases b1 with
   | false=>
    have HB:=hid (RetB.not hb1)
    clear hb1
    go_wp2
    go_ret
    exact RetB.no (fun h=>by rw[← HPP.out] at h; exact HB.out h.1) (hq.trans hq1)
   | true=>
    have HB:=hid (hb1.1 rfl)
    clear hb1
    by_cases h24:ts.length≤24
    ·have hd:decide ((ts.length:Int)≤24)=true:=aY (by omega)
     have H24:=hid h24
     clear h24
     go_wp2
     go_ret
     exact RetB.yes (by rw[← HPP.out]; exact HPP.out▸(HPP.out▸HYES.out HY.out HB.out H24.out)) (hq.trans hq1)
    ·have hd:decide ((ts.length:Int)≤24)=false:=aQ (by omega)
     have H24:=hid h24
     clear h24
     go_wp2
     go_ret
     exact RetB.no (fun h=>by rw[← HPP.out] at h; exact H24.out h.2.1) (hq.trans hq1)
end Go.Proofs.YtndabgcpnmeeoaaGreat
namespace Go.Proofs.YtndabgcpnmeeoaaGreat
set_option maxHeartbeats 4000000
set_option maxRecDepth 100000
open Go.RowKit
theorem QaG:Qg Tryz.prog 475:=fun a W=>Qc Tryz.func475 (by kernel_rfl) rfl a W
theorem Qc7 (C D:Value)(x:Qt)(g:Nat)(n hi:Int)(w:World)(Q:Rep QS w [C,D] x)(hb:w.cell? ⟨g,0,none⟩=some (.int .i64 n))(B:IntKind.i64.wrap (n - 1)=hi):
 Calls Tryz.prog 475 #[.agg #[C,D], .pointer (some ⟨g,0,none⟩)] w (RetB (¬Qtr hi x) w):=by
 obtain ⟨d,f⟩:=x
 obtain ⟨y,z⟩:=Q.open2 rfl
 dsimp only at y z
 obtain ⟨E,s,rfl, -, -⟩:=y.slv
 obtain ⟨F,t,rfl, -, -⟩:=z.slv
 have M:g < w.heap.size:=cY w _ hb
 rcases d with _ | ⟨q,d⟩
 ·go_enter Tryz.func475,Tryz.ntmps475
  go_wp2
  go_ret
  exact RetB.yes (fun h=>h.1 rfl) (by (repeat (first | with_reducible exact QM _ | with_reducible assumption | with_reducible apply Nw.alloc | with_reducible apply Nw.drew | with_reducible apply Nw.drewN | (with_reducible refine Q2 ?_ ?_; focus (first | (simp; done) | (simp; omega))) | with_reducible refine Zn ‹_› ?_)))
 ·have O:((((q :: d).length:Nat):Int)==0)=false:=X9 (by simp only[aq]; omega)
  generalize l:q :: d=pr at*
  go_enter Tryz.func475,Tryz.ntmps475
  obtain ⟨r,i,a,k,v⟩:=K7 w #[.slice E pr.length s, .slice F f.length t] 275
  have G:=k 1
  simp only[cE,bD,ce] at G
  have P:w.heap.size < r.heap.size:=by omega
  have J:r.cell? ⟨g,0,none⟩=some (.int .i64 n):=by rw[a.cells.1 _ _ M]; exact hb
  have N:g < r.heap.size:=by omega
  clear k v
  go_wp2_with fail
  rw[← i]
  have R:=hid i
  clear i
  refine (Ks _ pr _ _ _ (y.nw a) B).mono ?_
  rintro e S ⟨H,rfl,b,c⟩
  obtain ⟨K,L⟩:=c.cells
  cases H with
  | false=>
   have m:=hid (RetB.not b)
   clear b
   go_wp2
   go_ret
   exact RetB.yes (fun h=>m.out h.2.1) (a.trans c)
  | true=>
   have m:=hid (b.1 rfl)
   clear b
   go_wp2_with fail
   refine (Ks _ f _ _ _ ((z.nw a).nw c) B).mono ?_
   rintro e w2 ⟨I,rfl,j,u⟩
   have o:=hid j
   clear j
   have p:=hid l
   clear l
   go_wp2
   go_ret
   refine RetB.of ?_ ((a.trans c).trans u)
   have A:=o.out
   cases I with
   | false=>simp only[Bool.not_false,true_iff]; exact fun h=>by have:=A.2 h.2.2; cases this
   | true=>simp only[cZ,bJ,false_iff]; exact fun h=>h ⟨by rw[← p.out]; simp,m.out,A.1 rfl⟩
theorem Qeg (v B:Value)(n:Yh)(w:World)(hn:Rep Uz w [v,B] n):
 Calls Tryz.prog 382 #[.agg #[v,B]] w (RetB (YZ n) w):=by
 obtain ⟨p,b⟩:=n
 obtain ⟨O,P⟩:=hn.open2 rfl
 dsimp only at O P
 obtain ⟨rfl,a3,a4⟩:=O.int_
 obtain ⟨A,c,rfl,hl,X⟩:=P.slv
 have hm:b.length≤9223372036854775807:=by unfold maxLen at X; omega
 obtain ⟨D,l⟩:∃D,IntKind.i64.wrap (p - 1)=D:=⟨_,rfl⟩
 have G:=hid l
 have H:=hid (fun (h:YZ (p,b)) (k:Nat)=>QnV l h (k:=k))
 have u:=hid (fun U V C=>QnW (ts:=b) l U V C)
 generalize x:YZ (p,b)=PP at*
 have s:=hid x
 clear x O l
 go_enter Tryz.func382,Tryz.ntmps382
 obtain ⟨R,o,f,q,M⟩:=K7 w #[.int .i64 p, .slice A b.length c] 48
 have v:=q 0
 have B:=q 1
 simp only[cE,bD,ce] at v B
 have L:w.heap.size < R.heap.size:=by omega
 clear q M
 go_wp2_with fail
 rw[← o]
 have HW:=hid o
 clear o
 refine (W9 _ _ _ _).mono ?_
 rintro e w1 ⟨S,rfl,g,a⟩
 obtain ⟨I,Z⟩:=a.cells
 cases S with
 | false=>
  have E:=hid (RetB.not g)
  clear g
  go_wp2
  go_ret
  exact RetB.no (fun h=>by rw[← s.out] at h; exact E.out h.1) (f.trans a)
 | true=>
  have E:=hid (g.1 rfl)
  clear g
  by_cases d:b.length≤24
  ·have Y:decide ((24:Int) < (b.length:Int))=false:=aQ (by omega)
   have m:=hid d
   clear d
   go_wp2_with fail
   refine (Ua (fun t=>¬Qtr D t) b _ _ _ _ (P.nw (f.trans a)) QaG ?_).mono ?_
   ·intro i y W u0 u1 a2 K hy
    exact Qc7 u0 u1 y _ p D W hy (by rw[(K.cells).1 _ _ (by have:=a.size; omega),I _ _ L]; exact v) G.out
   ·rintro e w3 ⟨T,rfl,z,J⟩
    have F:=hid z
    clear z
    go_wp2
    go_ret
    refine RetB.of ?_ ((f.trans a).trans J)
    have C:=F.out
    cases T with
    | false=>
     simp only[Bool.not_false,true_iff]
     refine u.out (fun j Q t N=> ?_) E.out m.out
     exact ck fun r=>by
      have:=C.2 ⟨t,ai N,r⟩
      cases this
    | true=>
     simp only[cZ,bJ,false_iff]
     intro h
     obtain ⟨t,N,r⟩:=C.1 rfl
     obtain ⟨j,Q⟩:=aO.1 N
     exact r (H.out h j t Q)
  ·have Y:decide ((24:Int) < (b.length:Int))=true:=aY (by omega)
   have m:=hid d
   clear d
   go_wp2
   go_ret
   exact RetB.no (fun h=>by rw[← s.out] at h; exact m.out h.2.1) (f.trans a)
theorem BitsAt.step {s:ByteArray}{k:Nat}(h:∀j,j < k→BitsAt s j)(a:BitsAt s k):∀j,j < k+1→BitsAt s j:=by
 intro j b
 by_cases e:j=k
 ·subst e; exact a
 ·exact h j (by omega)
theorem Qmw (r t:Value)(n:Yh)(s:ByteArray)(w:World)(u:Rep Uz w [r,t] n)(D:s.size≤maxLen):
 Calls Tryz.prog 376 #[.agg #[r,t], .string s] w (RetB (Xz s n.1) w):=by
 have I:s.size≤9223372036854775807:=D
 obtain ⟨p,J⟩:=n
 obtain ⟨o,q⟩:=u.open2 rfl
 dsimp only at o q ⊢
 obtain ⟨rfl,B,C⟩:=o.int_
 obtain ⟨A,c,rfl,G,E⟩:=q.slv
 clear o q u
 go_enter Tryz.func376,Tryz.ntmps376
 go_wp2
 go_loop [5] (fun i=>∃k:Nat,k≤s.size∧i= .int .i64 k∧∀j,j < k→BitsAt s j) (fun i=>s.size - (intOf i).toNat)
 case atStart=>exact ⟨0,aP _,rfl,fun j h=>absurd h (by omega)⟩
 case round=>
  obtain ⟨k,F,rfl,d⟩:=hrel
  have m:=hid d
  clear d
  by_cases l:k < s.size
  ·rcases (by omega:s[k].toNat=48∨s[k].toNat=49∨(s[k].toNat≠48∧s[k].toNat≠49)) with h | h | ⟨h,x⟩
   ·have f:=Hr (a:=(s[k].toNat:Int)) (b:=48) (by omega)
    have H:=hid (show BitsAt s k from fun _=> .inl h)
    clear h
    go_wp2
    go_round
    case rel=>exact ⟨k+1,by omega,by go_num,BitsAt.step m.out H.out⟩
    case measure=>simp[intOf]; omega
   ·have f:=U8 (a:=(s[k].toNat:Int)) (b:=48) (by omega)
    have v:=Hr (a:=(s[k].toNat:Int)) (b:=49) (by omega)
    have H:=hid (show BitsAt s k from fun _=> .inr h)
    clear h
    go_wp2
    go_round
    case rel=>exact ⟨k+1,by omega,by go_num,BitsAt.step m.out H.out⟩
    case measure=>simp[intOf]; omega
   ·have f:=U8 (a:=(s[k].toNat:Int)) (b:=48) (by omega)
    have v:=U8 (a:=(s[k].toNat:Int)) (b:=49) (by omega)
    have H:=hid (show¬Xz s p from fun y=>by rcases y.1 k l l with e | e <;> contradiction)
    clear h x
    go_wp2
    go_ret
    exact RetB.no H.out (by (repeat (first | with_reducible exact QM _ | with_reducible assumption | with_reducible apply Nw.alloc | with_reducible apply Nw.drew | with_reducible apply Nw.drewN | (with_reducible refine Q2 ?_ ?_; focus (first | (simp; done) | (simp; omega))) | with_reducible refine Zn ‹_› ?_)))
  ·have:k=s.size:=by omega
   subst this
   by_cases g:(s.size:Int)=p
   ·have f:=U7 g
    have H:=hid (show Xz s p from ⟨fun j z=>m.out j z,g⟩)
    clear g
    go_wp2
    go_ret
    exact RetB.of (by simp only[f,H.out]) (by (repeat (first | with_reducible exact QM _ | with_reducible assumption | with_reducible apply Nw.alloc | with_reducible apply Nw.drew | with_reducible apply Nw.drewN | (with_reducible refine Q2 ?_ ?_; focus (first | (simp; done) | (simp; omega))) | with_reducible refine Zn ‹_› ?_)))
   ·have f:=X9 g
    have H:=hid (show¬Xz s p from fun h=>g h.2)
    clear g
    go_wp2
    go_ret
    exact RetB.of (by simp only[f,bJ,false_iff]; exact H.out) (by (repeat (first | with_reducible exact QM _ | with_reducible assumption | with_reducible apply Nw.alloc | with_reducible apply Nw.drew | with_reducible apply Nw.drewN | (with_reducible refine Q2 ?_ ?_; focus (first | (simp; done) | (simp; omega))) | with_reducible refine Zn ‹_› ?_)))
theorem Qms (s:ByteArray)(p:Int)(w:World)(r:s.size≤maxLen):
 Calls Tryz.prog 316 #[.string s, .int .i64 p] w (RetB (Xz s p) w):=by
 have u:s.size≤9223372036854775807:=r
 go_enter Tryz.func316,Tryz.ntmps316
 go_wp2
 go_loop [5] (fun i=>∃k:Nat,k≤s.size∧i= .int .i64 k∧∀j,j < k→BitsAt s j) (fun i=>s.size - (intOf i).toNat)
 case atStart=>exact ⟨0,aP _,rfl,fun j h=>absurd h (by omega)⟩
 case round=>
  obtain ⟨k,t,rfl,c⟩:=hrel
  have l:=hid c
  clear c
  by_cases g:k < s.size
  ·rcases (by omega:s[k].toNat=48∨s[k].toNat=49∨(s[k].toNat≠48∧s[k].toNat≠49)) with h | h | ⟨h,n⟩
   ·have d:=Hr (a:=(s[k].toNat:Int)) (b:=48) (by omega)
    have H:=hid (show BitsAt s k from fun _=> .inl h)
    clear h
    go_wp2
    go_round
    case rel=>exact ⟨k+1,by omega,by go_num,BitsAt.step l.out H.out⟩
    case measure=>simp[intOf]; omega
   ·have d:=U8 (a:=(s[k].toNat:Int)) (b:=48) (by omega)
    have m:=Hr (a:=(s[k].toNat:Int)) (b:=49) (by omega)
    have H:=hid (show BitsAt s k from fun _=> .inr h)
    clear h
    go_wp2
    go_round
    case rel=>exact ⟨k+1,by omega,by go_num,BitsAt.step l.out H.out⟩
    case measure=>simp[intOf]; omega
   ·have d:=U8 (a:=(s[k].toNat:Int)) (b:=48) (by omega)
    have m:=U8 (a:=(s[k].toNat:Int)) (b:=49) (by omega)
    have H:=hid (show¬Xz s p from fun o=>by rcases o.1 k g g with e | e <;> contradiction)
    clear h n
    go_wp2
    go_ret
    exact RetB.no H.out (QM _)
  ·have:k=s.size:=by omega
   subst this
   by_cases f:(s.size:Int)=p
   ·have d:=U7 f
    have H:=hid (show Xz s p from ⟨fun j q=>l.out j q,f⟩)
    clear f
    go_wp2
    go_ret
    exact RetB.of (by simp only[d,H.out]) (QM _)
   ·have d:=X9 f
    have H:=hid (show¬Xz s p from fun h=>f h.2)
    clear f
    go_wp2
    go_ret
    exact RetB.of (by simp only[d,bJ,false_iff]; exact H.out) (QM _)
theorem Qan (j g:Value)(n:Yh)(s:ByteArray)(w:World)(r:Rep Uz w [j,g] n)(B:s.size≤maxLen):
 Calls Tryz.prog 260 #[.agg #[j,g], .string s] w (RetB (YZ n∧Xz s n.1) w):=by
 have m:=r
 obtain ⟨p,E⟩:=n
 obtain ⟨t,D⟩:=m.open2 rfl
 dsimp only at t D ⊢
 obtain ⟨rfl,z,A⟩:=t.int_
 go_enter Tryz.func260,Tryz.ntmps260
 obtain ⟨u,c,b,d,q⟩:=K7 w #[.int .i64 p,g] 48
 have j:=d 0
 have g:=d 1
 simp only[cE,bD,ce] at j g
 have C:w.heap.size < u.heap.size:=by omega
 clear d q
 go_wp2_with fail
 rw[← c]
 have F:=hid c
 clear c
 refine (Qeg _ _ (p,E) _ (r.nw b)).mono ?_
 rintro e H ⟨v,rfl,a,f⟩
 obtain ⟨x,y⟩:=f.cells
 cases v with
 | false=>
  have k:=hid (RetB.not a)
  clear a
  go_wp2
  go_ret
  exact RetB.no (fun h=>k.out h.1) (b.trans f)
 | true=>
  have k:=hid (a.1 rfl)
  clear a
  go_wp2_with fail
  refine (Qms s p _ B).mono ?_
  rintro e w2 ⟨G,rfl,i,o⟩
  have l:=hid i
  clear i
  go_wp2
  go_ret
  exact RetB.of (l.out.trans ⟨fun h=>⟨k.out,h⟩,fun h=>h.2⟩) ((b.trans f).trans o)
end Go.Proofs.YtndabgcpnmeeoaaGreat
