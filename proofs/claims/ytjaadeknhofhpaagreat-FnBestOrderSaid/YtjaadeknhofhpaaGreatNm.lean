/- The small tests: ranges, names, cubes. -/
import Derived.Test.YtjaadeknhofhpaaGreatIdx
set_option linter.unusedSimpArgs false
set_option linter.unusedVariables false
set_option linter.unusedSectionVars false
namespace Go.Proofs.YtjaadeknhofhpaaGreat
set_option maxHeartbeats 4000000
set_option maxRecDepth 100000
open Go.RowKit
theorem QpA {s t:ByteArray}(h:(s.toList==t.toList)=true):s=t:=by
  have h:s.toList=t.toList:=by simpa using h
  rw[bW,bW] at h
  cases s; cases t
  exact congrArg _ (Array.toList_inj.1 h)
theorem Qrn {s t:ByteArray}(h:(s.toList==t.toList)=false):s≠t:=by
  rintro rfl
  simp at h
theorem Qnv {s t:ByteArray}(h:s=t):(s.toList==t.toList)=true:=by subst h; simp
theorem QpE {s t:ByteArray}(h:s≠t):(s.toList==t.toList)=false:=by
  cases e:(s.toList==t.toList) with
  | false=>rfl
  | true=>exact absurd (QpA e) h
def XV (k c:Nat):Prop:=(97≤c∧c≤122)∨(k≠0∧48≤c∧c≤57)
def Ja (s:ByteArray):Prop:=(∀k (h:k < s.size),XV k s[k].toNat)∧1≤s.size∧s.size≤6
def Qn1 (c:Nat):Prop:=c=48∨c=49∨c=45
def Qr3 (s:ByteArray):Prop:=∀k (h:k < s.size),Qn1 s[k].toNat
theorem W3 (n lo hi:Int)(w:World):Calls Tryz.prog 84 #[.int .i64 n, .int .i64 lo, .int .i64 hi] w (RetB (lo≤n∧n≤hi) w):=by
  by_cases h1:lo≤n
  · by_cases h2 : n ≤ hi
    all_goals
      go_enter Tryz.func84,Tryz.ntmps84
      go_wp2
      go_ret
      exact RetB.of (by simp; omega) (Zj _)
  · go_enter Tryz.func84, Tryz.ntmps84
    go_wp2
    go_ret
    exact RetB.of (by simp; omega) (Zj _)
theorem Kl (n lo hi:Int)(w:World):Calls Tryz.prog 174 #[.int .i64 n, .int .i64 lo, .int .i64 hi] w (RetB (lo≤n∧n≤hi) w):=by
  by_cases h1:lo≤n
  · by_cases h2 : n ≤ hi
    all_goals
      go_enter Tryz.func174,Tryz.ntmps174
      go_wp2
      go_ret
      exact RetB.of (by simp; omega) (Zj _)
  · go_enter Tryz.func174, Tryz.ntmps174
    go_wp2
    go_ret
    exact RetB.of (by simp; omega) (Zj _)
theorem QgG {s:ByteArray}{k:Nat}(h:k < s.size)(hc:¬XV k s[k].toNat):¬Ja s:=fun hn=>hc (hn.1 k h)
theorem Qaf {s:ByteArray}{k:Nat}(h:k < s.size)(hy:∀j (h:j < s.size),j < k→XV j s[j].toNat)(hc:XV k s[k].toNat):∀j (h:j < s.size),j < k+1→XV j s[j].toNat:=by
  intro j hj hjk
  by_cases e:j=k
  · subst e; exact hc
  · exact hy j hj (by omega)
theorem Qi7 (s:ByteArray)(w:World)(hs:s.size≤maxLen):Calls Tryz.prog 244 #[.string s] w (RetB (Ja s) w):=by
  have hm:s.size≤9223372036854775807:=hs
  go_enter Tryz.func244,Tryz.ntmps244
  go_wp2
  go_loop [3] (fun i=>∃k:Nat,k≤s.size∧i= .int .i64 k∧∀j (h:j < s.size),j < k→XV j s[j].toNat) (fun i=>s.size - (intOf i).toNat)
  case atStart=>exact ⟨0,aw _,rfl,fun j h h'=>absurd h' (by omega)⟩
  case round=>
    obtain ⟨k,hk,rfl,hyes⟩:=hrel
    have HY:=hid hyes
    clear hyes
    by_cases hlt:k < s.size
    · rcases (by omega : s[k].toNat < 48 ∨ (48 ≤ s[k].toNat ∧ s[k].toNat ≤ 57) ∨ (58 ≤ s[k].toNat ∧ s[k].toNat ≤ 96) ∨ (97 ≤ s[k].toNat ∧ s[k].toNat ≤ 122) ∨ 123 ≤ s[k].toNat) with h1 | ⟨h1, h2⟩ | ⟨h1, h2⟩ | ⟨h1, h2⟩ | h1
      all_goals first | have d0:decide ((97:Int)≤(s[k].toNat:Int))=true:=aK (by omega) | have d0:decide ((97:Int)≤(s[k].toNat:Int))=false:=aP (by omega)
      all_goals first | have d1:decide ((s[k].toNat:Int)≤122)=true:=aK (by omega) | have d1:decide ((s[k].toNat:Int)≤122)=false:=aP (by omega)
      all_goals first | have d2:decide ((48:Int)≤(s[k].toNat:Int))=true:=aK (by omega) | have d2:decide ((48:Int)≤(s[k].toNat:Int))=false:=aP (by omega)
      all_goals first | have d3:decide ((s[k].toNat:Int)≤57)=true:=aK (by omega) | have d3:decide ((s[k].toNat:Int)≤57)=false:=aP (by omega)
      all_goals first | have d4:decide ((s[k].toNat:Int) < 48)=true:=aK (by omega) | have d4:decide ((s[k].toNat:Int) < 48)=false:=aP (by omega)
      all_goals first | have d5:decide ((57:Int) < (s[k].toNat:Int))=true:=aK (by omega) | have d5:decide ((57:Int) < (s[k].toNat:Int))=false:=aP (by omega)
      all_goals rcases Nat.eq_zero_or_pos k with rfl | hk0
      all_goals try have hk1:((k:Int)==0)=false:=by simp; omega
      all_goals go_wp2
      all_goals first
        | (go_ret
           exact RetB.no (QgG hlt (by unfold XV; omega)) (Zj _))
        | (go_round
           case rel=>exact ⟨_+1,by omega,by go_num,Qaf hlt HY.out (by unfold XV; omega)⟩
           case measure=>simp[intOf]; omega)
    · have : k = s.size := by omega
      subst this
      go_wp2_with (go_at_call 174; refine (Kl _ _ _ _).mono ?_; rintro e w1 ⟨b,rfl,hb,hq1⟩)
      go_ret
      refine RetB.of (hb.trans ⟨fun h=>⟨fun j hj=>HY.out j hj hj,by omega,by omega⟩,fun h=>by have:=h.2; omega⟩) hq1
theorem Qkt (s:ByteArray)(w:World)(hs:s.size≤maxLen):Calls Tryz.prog 240 #[.string s] w (RetB (Ja s) w):=by
  have hm:s.size≤9223372036854775807:=hs
  go_enter Tryz.func240,Tryz.ntmps240
  go_wp2
  go_loopw [3] (fun i wr=>∃k:Nat,k≤s.size∧i= .int .i64 k∧(∀j (h:j < s.size),j < k→XV j s[j].toNat)∧Nw w wr) (fun i _=>s.size - (intOf i).toNat)
  case atStart=>exact ⟨0,aw _,rfl,fun j h h'=>absurd h' (by omega),Zj _⟩
  case round=>
    obtain ⟨k,hk,rfl,hyes,hq⟩:=hrel
    have HY:=hid hyes
    clear hyes
    by_cases hlt:k < s.size
    · have hi0 : (0 : Int) ≤ k := by omega
      have hi1:(k:Int) < s.size:=by omega
      rcases (by omega:s[k].toNat < 48∨(48≤s[k].toNat∧s[k].toNat≤57)∨(58≤s[k].toNat∧s[k].toNat≤96)∨(97≤s[k].toNat∧s[k].toNat≤122)∨123≤s[k].toNat) with h1 | ⟨h1,h2⟩ | ⟨h1,h2⟩ | ⟨h1,h2⟩ | h1
      all_goals first | have d0:decide ((97:Int)≤(s[k].toNat:Int))=true:=aK (by omega) | have d0:decide ((97:Int)≤(s[k].toNat:Int))=false:=aP (by omega)
      all_goals first | have d1:decide ((s[k].toNat:Int)≤122)=true:=aK (by omega) | have d1:decide ((s[k].toNat:Int)≤122)=false:=aP (by omega)
      all_goals first | have d2:decide ((48:Int)≤(s[k].toNat:Int))=true:=aK (by omega) | have d2:decide ((48:Int)≤(s[k].toNat:Int))=false:=aP (by omega)
      all_goals first | have d3:decide ((s[k].toNat:Int)≤57)=true:=aK (by omega) | have d3:decide ((s[k].toNat:Int)≤57)=false:=aP (by omega)
      all_goals first | have d4:decide ((s[k].toNat:Int) < 48)=true:=aK (by omega) | have d4:decide ((s[k].toNat:Int) < 48)=false:=aP (by omega)
      all_goals first | have d5:decide ((57:Int) < (s[k].toNat:Int))=true:=aK (by omega) | have d5:decide ((57:Int) < (s[k].toNat:Int))=false:=aP (by omega)
      all_goals rcases Nat.eq_zero_or_pos k with rfl | hk0
      all_goals try have hk1:((k:Int)==0)=false:=by simp; omega
      all_goals go_wp2_with fail
      all_goals go_quiet (fail)
      all_goals go_wp2
      all_goals first
        | (go_ret
           exact RetB.no (QgG hlt (by unfold XV; omega)) (hq.drewN _))
        | (go_roundw
           case rel=>exact ⟨_+1,by omega,by go_num,Qaf hlt HY.out (by unfold XV; omega),hq.drewN _⟩
           case measure=>simp[intOf]; omega)
    · have : k = s.size := by omega
      subst this
      go_wp2_with (go_at_call 84; refine (W3 _ _ _ _).mono ?_; rintro e w1 ⟨b,rfl,hb,hq1⟩)
      go_ret
      refine RetB.of (hb.trans ⟨fun h=>⟨fun j hj=>HY.out j hj hj,by omega,by omega⟩,fun h=>by have:=h.2; omega⟩) (hq.trans hq1)
theorem Kw {a b:Int}(h:a≠b):(a != b)=true:=by simpa using h
theorem He {a b:Int}(h:a=b):(a != b)=false:=by simpa using h
theorem Ke {a b:Int}(h:a=b):(a==b)=true:=by simpa using h
theorem WA {a b:Int}(h:a≠b):(a==b)=false:=by simpa using h
end Go.Proofs.YtjaadeknhofhpaaGreat
namespace Go.Proofs.YtjaadeknhofhpaaGreat
set_option maxHeartbeats 4000000
set_option maxRecDepth 100000
open Go.RowKit
def SigOkAt (xs:List Q9)(k:Nat):Prop:=∀x,xs[k]? =some x→Ja x.1∧(1≤x.2∧x.2≤3)∧∀j y,j < k→xs[j]? =some y→y.1≠x.1
def Qec (xs:List Q9):Prop:=(∀k,k < xs.length→SigOkAt xs k)∧1≤xs.length∧xs.length≤8
theorem SigOkAt.step {xs:List Q9}{k:Nat}(h:∀j,j < k→SigOkAt xs j)(hk:SigOkAt xs k):∀j,j < k+1→SigOkAt xs j:=by
  intro j hj
  by_cases e:j=k
  · subst e; exact hk
  · exact h j (by omega)
theorem Qfo (v:Value)(xs:List Q9)(w:World)(hr:Rep (.sl 90 Y6) w [v] xs):Calls Tryz.prog 171 #[v] w (RetB (Qec xs) w):=by
  obtain ⟨A,c,rfl,hl,hc⟩:=hr.slv
  have hm:xs.length≤9223372036854775807:=by unfold maxLen at hc; omega
  go_enter Tryz.func171,Tryz.ntmps171
  go_wp2
  go_loopw [9] (fun i wr=>∃k:Nat,k≤xs.length∧i= .int .i64 k∧(∀j,j < k→SigOkAt xs j)∧Nw w wr) (fun i _=>xs.length - (intOf i).toNat)
  case atStart=>exact ⟨0,aw _,rfl,fun j h=>absurd h (by omega),Zj _⟩
  case round=>
    obtain ⟨wo,rfl⟩:∃wo:World,wo=wr:=⟨_,rfl⟩
    obtain ⟨k,hk,rfl,hyes,hq⟩:=hrel
    have HY:=hid hyes
    clear hyes
    by_cases hlt:k < xs.length
    · obtain ⟨b, o, v0, v1, rfl, hx, c0, c1⟩ := (hr.nw hq).at2 rfl (ap hlt)
      have HX:=hid (ap hlt)
      generalize hxk:xs[k]=x at*
      clear hxk
      obtain ⟨s,n⟩:=x
      obtain ⟨r0,r1⟩:=hx.open2 rfl
      obtain ⟨rfl,hs⟩:=r0.str_
      obtain ⟨rfl, -⟩:=r1.int_
      have Hs:=hid hs
      clear hx r0 r1 hs
      go_wp2_with fail
      refine (Qi7 s _ Hs.out).mono ?_
      rintro e w1 ⟨b1,rfl,hb1,hq1⟩
      obtain ⟨hc1,hf1⟩:=hq1.cells
      have hz1:wo.heap.size < w1.heap.size:=by (have hz2:=hq1.size; simp at hz2; omega)
      cases b1 with
      | false=>
        have HB1:=hid (RetB.not hb1)
        clear hb1
        go_wp2
        go_ret
        exact RetB.no (fun h=>HB1.out (h.1 k hlt _ HX.out).1) (by (repeat (first | with_reducible exact Zj _ | with_reducible assumption | with_reducible apply Nw.alloc | with_reducible apply Nw.drew | with_reducible apply Nw.drewN | (with_reducible refine Zv ?_ ?_; focus (first | (simp; done) | (simp; omega))) | with_reducible refine ZT ‹_› ?_)))
      | true=>
        have HB1:=hid (hb1.1 rfl)
        clear hb1
        go_wp2_with fail
        refine (Kl n _ _ _).mono ?_
        rintro e w2 ⟨b2,rfl,hb2,hq2⟩
        obtain ⟨hc2,hf2⟩:=hq2.cells
        have hz3:wo.heap.size < w2.heap.size:=by (have hz2:=hq2.size; omega)
        cases b2 with
        | false=>
          have HB2:=hid (RetB.not hb2)
          clear hb2
          go_wp2
          go_ret
          exact RetB.no (fun h=>HB2.out (h.1 k hlt _ HX.out).2.1) (by (repeat (first | with_reducible exact Zj _ | with_reducible assumption | with_reducible apply Nw.alloc | with_reducible apply Nw.drew | with_reducible apply Nw.drewN | (with_reducible refine Zv ?_ ?_; focus (first | (simp; done) | (simp; omega))) | with_reducible refine ZT ‹_› ?_)))
        | true=>
          have HB2:=hid (hb2.1 rfl)
          clear hb2
          have hbx:w2.cell? ⟨wo.heap.size,0,none⟩=some (.string s):=by go_simp
          have hN2:Nw w w2:=by (repeat (first | with_reducible exact Zj _ | with_reducible assumption | with_reducible apply Nw.alloc | with_reducible apply Nw.drew | with_reducible apply Nw.drewN | (with_reducible refine Zv ?_ ?_; focus (first | (simp; done) | (simp; omega))) | with_reducible refine ZT ‹_› ?_))
          have hk9:k≤c:=by omega
          clear hc1 hf1 hc2 hf2 c0 c1 hq1 hq2
          go_wp2
          go_loopw [28] (fun i wi=>∃m:Nat,m≤k∧i= .int .i64 m∧(∀j y,j < m→xs[j]? =some y→y.1≠s)∧Nw w2 wi) (fun i _=>k - (intOf i).toNat)
          case atStart=>exact ⟨0,aw _,rfl,fun j y h=>absurd h (by omega),Zj _⟩
          case round=>
            obtain ⟨m,hm2,rfl,hno,hqi⟩:=hrel
            have HN:=hid hno
            clear hno
            obtain ⟨hci,hfi⟩:=hqi.cells
            have hzi:wo.heap.size < wr.heap.size:=by have:=hqi.size; omega
            by_cases hlm:m < k
            · obtain ⟨b', o', u0, u1, e', hy, d0, d1⟩ := ((hr.nw hN2).nw hqi).at2 rfl (ap (show m < xs.length by omega))
              have HYm:=hid (ap (show m < xs.length by omega))
              generalize hym:xs[m]=y at*
              clear hym
              obtain ⟨t,n'⟩:=y
              obtain ⟨s0,s1⟩:=hy.open2 rfl
              obtain ⟨rfl, -⟩:=s0.str_
              obtain ⟨rfl, -⟩:=s1.int_
              simp only[bd,Addr.mk.injEq,and_true] at e'
              obtain ⟨rfl,rfl⟩:=e'
              clear hy s0 s1
              go_wp2
              · rename_i he
                go_ret
                exact RetB.no (fun h=>(h.1 k hlt _ HX.out).2.2 m _ hlm HYm.out (QpA he).symm) (by (repeat (first | with_reducible exact Zj _ | with_reducible assumption | with_reducible apply Nw.alloc | with_reducible apply Nw.drew | with_reducible apply Nw.drewN | (with_reducible refine Zv ?_ ?_; focus (first | (simp; done) | (simp; omega))) | with_reducible refine ZT ‹_› ?_)))
              · go_roundw
                case rel=>
                  rename_i he
                  exact ⟨m+1,by omega,by go_num,fun j y hj hy=>by
                    by_cases e:j=m
                    · subst e
                      rw[HYm.out] at hy
                      cases hy
                      exact fun e=>Qrn he e.symm
                    · exact HN.out j y (by omega) hy,by (repeat (first | with_reducible exact Zj _ | with_reducible assumption | with_reducible apply Nw.alloc | with_reducible apply Nw.drew | with_reducible apply Nw.drewN | (with_reducible refine Zv ?_ ?_; focus (first | (simp; done) | (simp; omega))) | with_reducible refine ZT ‹_› ?_))⟩
                case measure=>simp[intOf]; omega
            · go_wp2
              go_roundw
              case rel=>exact ⟨k+1,by omega,by go_num,SigOkAt.step HY.out (fun x hx=>by
                rw[HX.out] at hx
                cases hx
                exact ⟨HB1.out,HB2.out,fun j y hj hy=>HN.out j y (by omega) hy⟩),by (repeat (first | with_reducible exact Zj _ | with_reducible assumption | with_reducible apply Nw.alloc | with_reducible apply Nw.drew | with_reducible apply Nw.drewN | (with_reducible refine Zv ?_ ?_; focus (first | (simp; done) | (simp; omega))) | with_reducible refine ZT ‹_› ?_))⟩
              case measure=>simp[intOf]; omega
    · have : k = xs.length := by omega
      subst this
      go_wp2_with (go_at_call 174; refine (Kl _ _ _ _).mono ?_; rintro e w1 ⟨b,rfl,hb,hq1⟩)
      go_ret
      exact RetB.of (hb.trans ⟨fun h=>⟨HY.out,by omega,by omega⟩,fun h=>by have:=h.2; omega⟩) (hq.trans hq1)
theorem QaP:Qt Tryz.prog 264:=fun args W=>Qk Tryz.func264 (by kernel_rfl) rfl args W
theorem QcD (v0 v1:Value)(x:Q9)(g:Nat)(s:ByteArray)(W:World)(hx:Rep Y6 W [v0,v1] x)(hb:W.cell? ⟨g,0,none⟩=some (.string s)):
    Calls Tryz.prog 264 #[.agg #[v0,v1], .pointer (some ⟨g,0,none⟩)] W (RetB (x.1=s) W):=by
  obtain ⟨t,n⟩:=x
  obtain ⟨r0,r1⟩:=hx.open2 rfl
  obtain ⟨rfl, -⟩:=r0.str_
  obtain ⟨rfl, -⟩:=r1.int_
  have hg:g < W.heap.size:=cw W _ hb
  clear hx r0 r1
  by_cases h:t=s
  · have h2 := Qnv h
    have H:=hid h
    clear h
    go_enter Tryz.func264,Tryz.ntmps264
    go_wp2
    go_ret
    exact RetB.of (by simp only[h2,H.out]) ((Zj _).alloc _)
  · have h2 := QpE h
    have H:=hid h
    clear h
    go_enter Tryz.func264,Tryz.ntmps264
    go_wp2
    go_ret
    exact RetB.of (by simp only[h2,H.out]; simp) ((Zj _).alloc _)
theorem Qeq (v:Value)(xs:List Q9)(w:World)(hr:Rep (.sl 90 Y6) w [v] xs):Calls Tryz.prog 164 #[v] w (RetB (Qec xs) w):=by
  obtain ⟨A,c,rfl,hl,hc⟩:=hr.slv
  have hm:xs.length≤9223372036854775807:=by unfold maxLen at hc; omega
  go_enter Tryz.func164,Tryz.ntmps164
  go_wp2
  go_loopw [7] (fun i wr=>∃k:Nat,k≤xs.length∧i= .int .i64 k∧(∀j,j < k→SigOkAt xs j)∧Nw w wr) (fun i _=>xs.length - (intOf i).toNat)
  case atStart=>exact ⟨0,aw _,rfl,fun j h=>absurd h (by omega),Zj _⟩
  case round=>
    obtain ⟨wo,rfl⟩:∃wo:World,wo=wr:=⟨_,rfl⟩
    obtain ⟨k,hk,rfl,hyes,hq⟩:=hrel
    have HY:=hid hyes
    clear hyes
    by_cases hlt:k < xs.length
    · obtain ⟨b, o, v0, v1, rfl, hx, c0, c1⟩ := (hr.nw hq).at2 rfl (ap hlt)
      have HX:=hid (ap hlt)
      generalize hxk:xs[k]=x at*
      clear hxk
      obtain ⟨s,n⟩:=x
      obtain ⟨r0,r1⟩:=hx.open2 rfl
      obtain ⟨rfl,hs⟩:=r0.str_
      obtain ⟨rfl, -⟩:=r1.int_
      have Hs:=hid hs
      clear hx r0 r1 hs
      go_wp2_with fail
      refine (Qkt s _ Hs.out).mono ?_
      rintro e w1 ⟨b1,rfl,hb1,hq1⟩
      obtain ⟨hc1,hf1⟩:=hq1.cells
      have hz1:wo.heap.size < w1.heap.size:=by (have hz2:=hq1.size; simp at hz2; omega)
      cases b1 with
      | false=>
        have HB1:=hid (RetB.not hb1)
        clear hb1
        go_wp2
        go_ret
        exact RetB.no (fun h=>HB1.out (h.1 k hlt _ HX.out).1) (by (repeat (first | with_reducible exact Zj _ | with_reducible assumption | with_reducible apply Nw.alloc | with_reducible apply Nw.drew | with_reducible apply Nw.drewN | (with_reducible refine Zv ?_ ?_; focus (first | (simp; done) | (simp; omega))) | with_reducible refine ZT ‹_› ?_)))
      | true=>
        have HB1:=hid (hb1.1 rfl)
        clear hb1
        go_wp2_with fail
        refine (W3 n _ _ _).mono ?_
        rintro e w2 ⟨b2,rfl,hb2,hq2⟩
        obtain ⟨hc2,hf2⟩:=hq2.cells
        have hz3:wo.heap.size < w2.heap.size:=by (have hz2:=hq2.size; omega)
        cases b2 with
        | false=>
          have HB2:=hid (RetB.not hb2)
          clear hb2
          go_wp2
          go_ret
          exact RetB.no (fun h=>HB2.out (h.1 k hlt _ HX.out).2.1) (by (repeat (first | with_reducible exact Zj _ | with_reducible assumption | with_reducible apply Nw.alloc | with_reducible apply Nw.drew | with_reducible apply Nw.drewN | (with_reducible refine Zv ?_ ?_; focus (first | (simp; done) | (simp; omega))) | with_reducible refine ZT ‹_› ?_)))
        | true=>
          have HB2:=hid (hb2.1 rfl)
          clear hb2
          have hbx:w2.cell? ⟨wo.heap.size,0,none⟩=some (.string s):=by go_simp
          have hN2:Nw w w2:=by (repeat (first | with_reducible exact Zj _ | with_reducible assumption | with_reducible apply Nw.alloc | with_reducible apply Nw.drew | with_reducible apply Nw.drewN | (with_reducible refine Zv ?_ ?_; focus (first | (simp; done) | (simp; omega))) | with_reducible refine ZT ‹_› ?_))
          have hk9:k≤c:=by omega
          have HBX:=hid hbx
          clear hc1 hf1 hc2 hf2 c0 c1 hq1 hq2 hbx
          go_wp2_with fail
          refine (K5 (fun y=>y.1=s) (xs.take k) _ _ _ _ ((hr.nw hN2).cut hk c hk9 hc) QaP ?_).mono ?_
          · intro i y W u0 u1 hi hqW hy
            exact QcD u0 u1 y _ s W hy (by rw[(hqW.cells).1 _ _ hz3]; exact HBX.out)
          · rintro e w3 ⟨b3, rfl, hb3, hq3⟩
            cases b3 with
            | false=>
              have HB3:=hid (RetB.not hb3)
              clear hb3
              go_wp2
              go_roundw
              case rel=>exact ⟨k+1,by omega,by go_num,SigOkAt.step HY.out (fun x hx=>by
                rw[HX.out] at hx
                cases hx
                refine ⟨HB1.out,HB2.out,fun j y hj hy e=>HB3.out ⟨y, ?_,e⟩⟩
                exact ai (i:=j) (by rw[ba,if_pos hj]; exact hy)),by (repeat (first | with_reducible exact Zj _ | with_reducible assumption | with_reducible apply Nw.alloc | with_reducible apply Nw.drew | with_reducible apply Nw.drewN | (with_reducible refine Zv ?_ ?_; focus (first | (simp; done) | (simp; omega))) | with_reducible refine ZT ‹_› ?_))⟩
              case measure=>simp[intOf]; omega
            | true=>
              have HB3:=hid (hb3.1 rfl)
              clear hb3
              go_wp2
              go_ret
              refine RetB.no (fun h=> ?_) (by (repeat (first | with_reducible exact Zj _ | with_reducible assumption | with_reducible apply Nw.alloc | with_reducible apply Nw.drew | with_reducible apply Nw.drewN | (with_reducible refine Zv ?_ ?_; focus (first | (simp; done) | (simp; omega))) | with_reducible refine ZT ‹_› ?_)))
              obtain ⟨y,hy,e⟩:=HB3.out
              obtain ⟨j,hj⟩:=aS.1 hy
              rw[ba] at hj
              split at hj
              · exact (h.1 k hlt _ HX.out).2.2 j y ‹_› hj e
              · cases hj
    · have : k = xs.length := by omega
      subst this
      go_wp2_with (go_at_call 84; refine (W3 _ _ _ _).mono ?_; rintro e w1 ⟨b,rfl,hb,hq1⟩)
      go_ret
      exact RetB.of (hb.trans ⟨fun h=>⟨HY.out,by omega,by omega⟩,fun h=>by have:=h.2; omega⟩) (hq.trans hq1)
end Go.Proofs.YtjaadeknhofhpaaGreat
namespace Go.Proofs.YtjaadeknhofhpaaGreat
set_option maxHeartbeats 4000000
set_option maxRecDepth 100000
open Go.RowKit
theorem Qff (w:World)(g:Nat)(c:Array Value)(T:TypeId)(fr:Nat×Nat)(i:Nat)(h:w.heap[g]? =some (.cells c T fr)):w.cell? ⟨g,i,none⟩=c[i]? :=by
  simp only[World.cell?,h]; rfl
theorem KT (w:World)(c1:Array Value)(T1:TypeId):∃W0,W0=w.alloc (.cells c1 T1)∧Nw w W0∧(∀i,W0.cell? ⟨w.heap.size,i,none⟩=c1[i]?)∧W0.heap.size=w.heap.size+1:=
  ⟨_,rfl,(Zj _).alloc _,fun i=>Qff _ _ _ _ _ i (heap_alloc_new w _),by simp⟩
end Go.Proofs.YtjaadeknhofhpaaGreat
namespace Go.Proofs.YtjaadeknhofhpaaGreat
set_option maxHeartbeats 4000000
set_option maxRecDepth 100000
open Go.RowKit
def RisAt (l:List Int)(hi:Int)(k:Nat):Prop:=∀x,l[k]? =some x→(0≤x∧x≤hi)∧∀j y,j+1=k→l[j]? =some y→y < x
def JX (l:List Int)(hi:Int):Prop:=∀k,k < l.length→RisAt l hi k
theorem RisAt.step {l:List Int}{hi:Int}{k:Nat}(h:∀j,j < k→RisAt l hi j)(hk:RisAt l hi k):∀j,j < k+1→RisAt l hi j:=by
  intro j hj
  by_cases e:j=k
  · subst e; exact hk
  · exact h j (by omega)
def QqL (hi:Int)(t:QW):Prop:=t.1≠[]∧JX t.1 hi∧JX t.2 hi
def Xv (n:Xj):Prop:=(1≤n.1∧n.1≤30)∧n.2.length≤24∧∀t∈n.2,QqL (n.1 - 1) t
def Qsg (c:UInt8):Prop:=c.toNat=48∨c.toNat=49
def BitsAt (s:ByteArray)(k:Nat):Prop:=∀h:k < s.size,Qsg s[k]
def W8 (s:ByteArray)(n:Int):Prop:=(∀k,k < s.size→BitsAt s k)∧(s.size:Int)=n
theorem QgP (v:Value)(l:List Int)(hi:Int)(w:World)(hr:Rep Qs w [v] l):
    Calls Tryz.prog 342 #[v, .int .i64 0, .int .i64 hi] w (RetB (JX l hi) w):=by
  obtain ⟨A,c,rfl,hl,hc⟩:=hr.slv
  have hm:l.length≤9223372036854775807:=by unfold maxLen at hc; omega
  go_enter Tryz.func342,Tryz.ntmps342
  go_wp2
  go_loopw [11] (fun i wr=>∃k:Nat,k≤l.length∧i= .int .i64 k∧(∀j,j < k→RisAt l hi j)∧Nw w wr) (fun i _=>l.length - (intOf i).toNat)
  case atStart=>exact ⟨0,aw _,rfl,fun j h=>absurd h (by omega),Zj _⟩
  case round=>
    obtain ⟨k,hk,rfl,hyes,hq⟩:=hrel
    have HY:=hid hyes
    clear hyes
    by_cases hlt:k < l.length
    · obtain ⟨b, o, v0, rfl, hx, c0⟩ := (hr.nw hq).at1 rfl (ap hlt)
      have HX:=hid (ap hlt)
      generalize hxk:l[k]=x at*
      clear hxk
      obtain ⟨rfl, -⟩:=hx.int_
      clear hx
      go_wp2_with fail
      refine (Kl _ _ _ _).mono ?_
      rintro e w1 ⟨b1,rfl,hb1,hq1⟩
      obtain ⟨hc1,hf1⟩:=hq1.cells
      cases b1 with
      | false=>
        have HB:=hid (RetB.not hb1)
        clear hb1
        go_wp2
        go_ret
        exact RetB.no (fun h=>HB.out ((h k hlt _ HX.out).1)) (hq.trans hq1)
      | true=>
        have HB:=hid (hb1.1 rfl)
        clear hb1
        by_cases hk0:k=0
        · subst hk0
          go_wp2
          go_roundw
          case rel=>exact ⟨1,by omega,by go_num,RisAt.step HY.out (fun y hy=>by
            rw[HX.out] at hy
            cases hy
            exact ⟨HB.out,fun j y hj=>absurd hj (by omega)⟩),hq.trans hq1⟩
          case measure=>simp[intOf]; omega
        · obtain ⟨m, hm1⟩ : ∃ m, k = m + 1 := ⟨k - 1, by omega⟩
          have hkm:(k:Int) - 1=m:=by omega
          have hkp:(0:Int) < k:=by omega
          have hml:m < l.length:=by omega
          obtain ⟨b',o',y0,e',hy,d0⟩:=((hr.nw hq).nw hq1).at1 rfl (ap hml)
          simp only[bd,Addr.mk.injEq,and_true] at e'
          obtain ⟨rfl,rfl⟩:=e'
          have HYm:=hid (ap hml)
          generalize hym:l[m]=y at*
          clear hym
          obtain ⟨rfl, -⟩:=hy.int_
          clear hy
          by_cases hyx:x≤y
          · have hd := aK hyx
            have HM:=hid (And.intro hm1 hyx)
            clear hm1 hyx
            go_wp2
            go_ret
            exact RetB.no (fun h=>by have:=(h k hlt _ HX.out).2 m _ (HM.out.1).symm HYm.out; have:=HM.out.2; omega) (hq.trans hq1)
          · have hd := aP hyx
            have HM:=hid (And.intro hm1 hyx)
            clear hm1 hyx
            go_wp2
            go_roundw
            case rel=>exact ⟨k+1,by omega,by go_num,RisAt.step HY.out (fun z hz=>by
              rw[HX.out] at hz
              cases hz
              exact ⟨HB.out,fun j y hj hy=>by
                obtain ⟨h1,h2⟩:=HM.out
                have:j=m:=by omega
                subst this
                rw[HYm.out] at hy
                cases hy
                omega⟩),hq.trans hq1⟩
            case measure=>simp[intOf]; omega
    · have : k = l.length := by omega
      subst this
      go_wp2
      go_ret
      exact RetB.yes (HY.out) hq
theorem Kz (v:Value)(l:List Int)(n hi:Int)(w:World)(hr:Rep Qs w [v] l)(hn:IntKind.i64.wrap (n - 1)=hi):
    Calls Tryz.prog 340 #[v, .int .i64 n] w (RetB (JX l hi) w):=by
  obtain ⟨A,c,rfl,hl,hc⟩:=hr.slv
  have hm:l.length≤9223372036854775807:=by unfold maxLen at hc; omega
  go_enter Tryz.func340,Tryz.ntmps340
  go_wp2
  go_loopw [9] (fun i wr=>∃k:Nat,k≤l.length∧i= .int .i64 k∧(∀j,j < k→RisAt l hi j)∧Nw w wr) (fun i _=>l.length - (intOf i).toNat)
  case atStart=>exact ⟨0,aw _,rfl,fun j h=>absurd h (by omega),Zj _⟩
  case round=>
    obtain ⟨k,hk,rfl,hyes,hq⟩:=hrel
    have HY:=hid hyes
    clear hyes
    by_cases hlt:k < l.length
    · obtain ⟨b, o, v0, rfl, hx, c0⟩ := (hr.nw hq).at1 rfl (ap hlt)
      have HX:=hid (ap hlt)
      generalize hxk:l[k]=x at*
      clear hxk
      obtain ⟨rfl, -⟩:=hx.int_
      clear hx
      go_wp2_with fail
      refine (W3 _ _ _ _).mono ?_
      rintro e w1 ⟨b1,rfl,hb1,hq1⟩
      obtain ⟨hc1,hf1⟩:=hq1.cells
      cases b1 with
      | false=>
        have HB:=hid (RetB.not hb1)
        clear hb1
        go_wp2
        go_ret
        exact RetB.no (fun h=>HB.out ((h k hlt _ HX.out).1)) (hq.trans hq1)
      | true=>
        have HB:=hid (hb1.1 rfl)
        clear hb1
        by_cases hk0:k=0
        · subst hk0
          go_wp2
          go_roundw
          case rel=>exact ⟨1,by omega,by go_num,RisAt.step HY.out (fun y hy=>by
            rw[HX.out] at hy
            cases hy
            exact ⟨HB.out,fun j y hj=>absurd hj (by omega)⟩),hq.trans hq1⟩
          case measure=>simp[intOf]; omega
        · obtain ⟨m, hm1⟩ : ∃ m, k = m + 1 := ⟨k - 1, by omega⟩
          have hkm:(k:Int) - 1=m:=by omega
          have hkp:(0:Int) < k:=by omega
          have hml:m < l.length:=by omega
          obtain ⟨b',o',y0,e',hy,d0⟩:=((hr.nw hq).nw hq1).at1 rfl (ap hml)
          simp only[bd,Addr.mk.injEq,and_true] at e'
          obtain ⟨rfl,rfl⟩:=e'
          have HYm:=hid (ap hml)
          generalize hym:l[m]=y at*
          clear hym
          obtain ⟨rfl, -⟩:=hy.int_
          clear hy
          by_cases hyx:x≤y
          · have hd := aK hyx
            have HM:=hid (And.intro hm1 hyx)
            clear hm1 hyx
            go_wp2
            go_ret
            exact RetB.no (fun h=>by have:=(h k hlt _ HX.out).2 m _ (HM.out.1).symm HYm.out; have:=HM.out.2; omega) (hq.trans hq1)
          · have hd := aP hyx
            have HM:=hid (And.intro hm1 hyx)
            clear hm1 hyx
            go_wp2
            go_roundw
            case rel=>exact ⟨k+1,by omega,by go_num,RisAt.step HY.out (fun z hz=>by
              rw[HX.out] at hz
              cases hz
              exact ⟨HB.out,fun j y hj hy=>by
                obtain ⟨h1,h2⟩:=HM.out
                have:j=m:=by omega
                subst this
                rw[HYm.out] at hy
                cases hy
                omega⟩),hq.trans hq1⟩
            case measure=>simp[intOf]; omega
    · have : k = l.length := by omega
      subst this
      go_wp2
      go_ret
      exact RetB.yes (HY.out) hq
end Go.Proofs.YtjaadeknhofhpaaGreat
namespace Go.Proofs.YtjaadeknhofhpaaGreat
set_option maxHeartbeats 4000000
set_option maxRecDepth 100000
open Go.RowKit
theorem Qeh (v:Value)(l:List Int)(hi:Int)(w:World)(hr:Rep Qs w [v] l):
    Calls Tryz.prog 267 #[v, .int .i64 hi] w (RetB (JX l hi) w):=by
  obtain ⟨A,c,rfl,hl,hc⟩:=hr.slv
  go_enter Tryz.func267,Tryz.ntmps267
  go_wp2_with fail
  refine (QgP _ l _ _ hr).mono ?_
  rintro e w1 ⟨b,rfl,hb,hq⟩
  go_wp2
  go_ret
  exact RetB.of hb hq
def TrAt (hi:Int)(ts:List QW)(k:Nat):Prop:=∀t,ts[k]? =some t→QqL hi t
theorem TrAt.step {hi:Int}{ts:List QW}{k:Nat}(h:∀j,j < k→TrAt hi ts j)(hk:TrAt hi ts k):∀j,j < k+1→TrAt hi ts j:=by
  intro j hj
  by_cases e:j=k
  · subst e; exact hk
  · exact h j (by omega)
theorem Qlh {p hi:Int}{ts:List QW}(hh:IntKind.i64.wrap (p - 1)=hi)(h:∀j,j < ts.length→TrAt hi ts j)(h1:1≤p∧p≤30)(h2:ts.length≤24):Xv (p,ts):=by
  have:hi=p - 1:=by rw[← hh]; exact IntWalk.i64_in _ (by omega)
  refine ⟨h1,h2,fun t ht=> ?_⟩
  obtain ⟨j,hj⟩:=aS.1 ht
  have:=h j (au.1 hj).1 t hj
  simp_all
theorem Qk0 {p hi:Int}{ts:List QW}(hh:IntKind.i64.wrap (p - 1)=hi)(h:Xv (p,ts)){k:Nat}:TrAt hi ts k:=by
  have h1:=h.1
  have:hi=p - 1:=by rw[← hh]; exact IntWalk.i64_in _ (by omega)
  subst this
  exact fun t ht=>h.2.2 t (ai ht)
theorem QdR (a0 a1:Value)(n:Xj)(w:World)(hn:Rep UD w [a0,a1] n):
    Calls Tryz.prog 170 #[.agg #[a0,a1]] w (RetB (Xv n) w):=by
  obtain ⟨p,ts⟩:=n
  obtain ⟨rP,rT⟩:=hn.open2 rfl
  dsimp only at rP rT
  obtain ⟨rfl,hp1,hp2⟩:=rP.int_
  obtain ⟨A,c,rfl,hl,hc⟩:=rT.slv
  have hm:ts.length≤9223372036854775807:=by unfold maxLen at hc; omega
  obtain ⟨hi,hhi⟩:∃hi,IntKind.i64.wrap (p - 1)=hi:=⟨_,rfl⟩
  have HNO:=hid (fun (h:Xv (p,ts)) (k:Nat)=>Qk0 hhi h (k:=k))
  have HYES:=hid (fun h1 h2 h3=>Qlh (ts:=ts) hhi h1 h2 h3)
  generalize hPP:Xv (p,ts)=PP at*
  have HPP:=hid hPP
  clear hPP rP
  go_enter Tryz.func170,Tryz.ntmps170
  go_wp2
  go_loopw [8] (fun i wr=>∃k:Nat,k≤ts.length∧i= .int .i64 k∧(∀j,j < k→TrAt hi ts j)∧Nw w wr∧wr.cell? ⟨w.heap.size,0,none⟩=some (.int .i64 p)∧wr.cell? ⟨w.heap.size,1,none⟩=some (.slice A ts.length c)∧w.heap.size < wr.heap.size) (fun i _=>ts.length - (intOf i).toNat)
  case atStart=>exact ⟨0,aw _,rfl,fun j h=>absurd h (by omega),by (repeat (first | with_reducible exact Zj _ | with_reducible assumption | with_reducible apply Nw.alloc | with_reducible apply Nw.drew | with_reducible apply Nw.drewN | (with_reducible refine Zv ?_ ?_; focus (first | (simp; done) | (simp; omega))) | with_reducible refine ZT ‹_› ?_)),by go_simp,by go_simp,by simp⟩
  case round=>
    obtain ⟨wo,rfl⟩:∃wo:World,wo=wr:=⟨_,rfl⟩
    obtain ⟨k,hk,rfl,hyes,hq,d0,d1,hs⟩:=hrel
    have HY:=hid hyes
    clear hyes
    by_cases hlt:k < ts.length
    · obtain ⟨b, o, v0, v1, rfl, hx, c0, c1⟩ := (rT.nw hq).at2 rfl (ap hlt)
      have HX:=hid (ap hlt)
      generalize hxk:ts[k]=x at*
      clear hxk
      obtain ⟨pre,post⟩:=x
      obtain ⟨r0,r1⟩:=hx.open2 rfl
      dsimp only at r0 r1
      obtain ⟨A0,cc0,rfl, -, -⟩:=r0.slv
      obtain ⟨A1,cc1,rfl, -, -⟩:=r1.slv
      rcases pre with _ | ⟨q,pre⟩
      · go_wp2
        go_ret
        exact RetB.no (fun h=>(HNO.out h k _ HX.out).1 rfl) (by (repeat (first | with_reducible exact Zj _ | with_reducible assumption | with_reducible apply Nw.alloc | with_reducible apply Nw.drew | with_reducible apply Nw.drewN | (with_reducible refine Zv ?_ ?_; focus (first | (simp; done) | (simp; omega))) | with_reducible refine ZT ‹_› ?_)))
      · have hne : ((((q :: pre).length : Nat) : Int) == 0) = false := WA (by simp only [ah]; omega)
        generalize hqp:q :: pre=pr at*
        go_wp2_with fail
        obtain ⟨W1,hW1⟩:∃W1,W1=wo.alloc (.cells #[.slice A0 pr.length cc0, .slice A1 post.length cc1] 198):=⟨_,rfl⟩
        have e0:W1.cell? ⟨wo.heap.size,1,none⟩=some (.slice A1 post.length cc1):=by rw[hW1]; go_simp
        have e1:W1.cell? ⟨w.heap.size,0,none⟩=some (.int .i64 p):=by rw[hW1]; go_simp
        have e2:W1.cell? ⟨w.heap.size,1,none⟩=some (.slice (some ⟨b,o,none⟩) ts.length c):=by rw[hW1]; go_simp
        have hN1:Nw wo W1:=by rw[hW1]; exact (Zj _).alloc _
        have hs1:wo.heap.size < W1.heap.size:=by rw[hW1]; simp
        have hs2:w.heap.size < W1.heap.size:=by omega
        rw[← hW1]
        clear hW1 c0 c1 d0 d1
        refine (Qeh _ pr _ _ (r0.nw hN1)).mono ?_
        rintro e w1 ⟨b1,rfl,hb1,hq1⟩
        obtain ⟨hc1,hf1⟩:=hq1.cells
        cases b1 with
        | false=>
          have HB:=hid (RetB.not hb1)
          clear hb1
          go_wp2
          go_ret
          exact RetB.no (fun h=>HB.out (HNO.out h k _ HX.out).2.1) ((hq.trans hN1).trans hq1)
        | true=>
          have HB:=hid (hb1.1 rfl)
          clear hb1
          go_wp2_with fail
          refine (Qeh _ post _ _ ((r1.nw hN1).nw hq1)).mono ?_
          rintro e w2 ⟨b2,rfl,hb2,hq2⟩
          have hN2:=hq1.trans hq2
          clear hc1 hf1
          obtain ⟨hc1,hf1⟩:=hN2.cells
          cases b2 with
          | false=>
            have HB2:=hid (RetB.not hb2)
            clear hb2
            go_wp2
            go_ret
            exact RetB.no (fun h=>HB2.out (HNO.out h k _ HX.out).2.2) ((hq.trans hN1).trans hN2)
          | true=>
            have HB2:=hid (hb2.1 rfl)
            clear hb2
            have hs3:w.heap.size < w2.heap.size:=by have:=hN2.size; omega
            have HQP:=hid hqp
            clear hqp
            go_wp2
            go_roundw
            case rel=>exact ⟨k+1,by omega,by go_num,TrAt.step HY.out (fun y hy=>by
              rw[HX.out] at hy
              cases hy
              exact ⟨by rw[← HQP.out]; simp,HB.out,HB2.out⟩),(hq.trans hN1).trans hN2,by rw[hc1 _ _ hs2]; exact e1,by rw[hc1 _ _ hs2]; exact e2,hs3⟩
            case measure=>simp[intOf]; omega
    · have : k = ts.length := by omega
      subst this
      go_wp2_with fail
      refine (Kl _ _ _ _).mono ?_
      rintro e w1 ⟨b1,rfl,hb1,hq1⟩
      obtain ⟨hc1,hf1⟩:=hq1.cells
      cases b1 with
      | false=>
        have HB:=hid (RetB.not hb1)
        clear hb1
        go_wp2
        go_ret
        exact RetB.no (fun h=>by rw[← HPP.out] at h; exact HB.out h.1) (hq.trans hq1)
      | true=>
        have HB:=hid (hb1.1 rfl)
        clear hb1
        by_cases h24:ts.length≤24
        · have hd : decide ((ts.length : Int) ≤ 24) = true := aK (by omega)
          have H24:=hid h24
          clear h24
          go_wp2
          go_ret
          exact RetB.yes (by rw[← HPP.out]; exact HPP.out▸(HPP.out▸HYES.out HY.out HB.out H24.out)) (hq.trans hq1)
        · have hd : decide ((ts.length : Int) ≤ 24) = false := aP (by omega)
          have H24:=hid h24
          clear h24
          go_wp2
          go_ret
          exact RetB.no (fun h=>by rw[← HPP.out] at h; exact H24.out h.2.1) (hq.trans hq1)
end Go.Proofs.YtjaadeknhofhpaaGreat
namespace Go.Proofs.YtjaadeknhofhpaaGreat
set_option maxHeartbeats 4000000
set_option maxRecDepth 100000
open Go.RowKit
theorem QaQ:Qt Tryz.prog 339:=fun args W=>Qk Tryz.func339 (by kernel_rfl) rfl args W
theorem QcJ (v0 v1:Value)(x:QW)(g:Nat)(n hi:Int)(w:World)(hx:Rep Zk w [v0,v1] x)(hb:w.cell? ⟨g,0,none⟩=some (.int .i64 n))(hh:IntKind.i64.wrap (n - 1)=hi):
    Calls Tryz.prog 339 #[.agg #[v0,v1], .pointer (some ⟨g,0,none⟩)] w (RetB (¬QqL hi x) w):=by
  obtain ⟨pre,post⟩:=x
  obtain ⟨r0,r1⟩:=hx.open2 rfl
  dsimp only at r0 r1
  obtain ⟨A0,cc0,rfl, -, -⟩:=r0.slv
  obtain ⟨A1,cc1,rfl, -, -⟩:=r1.slv
  have hg:g < w.heap.size:=cw w _ hb
  rcases pre with _ | ⟨q,pre⟩
  · go_enter Tryz.func339, Tryz.ntmps339
    go_wp2
    go_ret
    exact RetB.yes (fun h=>h.1 rfl) (by (repeat (first | with_reducible exact Zj _ | with_reducible assumption | with_reducible apply Nw.alloc | with_reducible apply Nw.drew | with_reducible apply Nw.drewN | (with_reducible refine Zv ?_ ?_; focus (first | (simp; done) | (simp; omega))) | with_reducible refine ZT ‹_› ?_)))
  · have hne : ((((q :: pre).length : Nat) : Int) == 0) = false := WA (by simp only [ah]; omega)
    generalize hqp:q :: pre=pr at*
    go_enter Tryz.func339,Tryz.ntmps339
    obtain ⟨W0,hW0,hN0,hcA,hsz⟩:=KT w #[.slice A0 pr.length cc0, .slice A1 post.length cc1] 198
    have a1:=hcA 1
    simp only[ce,bh,bJ] at a1
    have hs0:w.heap.size < W0.heap.size:=by omega
    have hb0:W0.cell? ⟨g,0,none⟩=some (.int .i64 n):=by rw[hN0.cells.1 _ _ hg]; exact hb
    have hg0:g < W0.heap.size:=by omega
    clear hcA hsz
    go_wp2_with fail
    rw[← hW0]
    have HW:=hid hW0
    clear hW0
    refine (Kz _ pr _ _ _ (r0.nw hN0) hh).mono ?_
    rintro e w1 ⟨b1,rfl,hb1,hq1⟩
    obtain ⟨hc1,hf1⟩:=hq1.cells
    cases b1 with
    | false=>
      have HB:=hid (RetB.not hb1)
      clear hb1
      go_wp2
      go_ret
      exact RetB.yes (fun h=>HB.out h.2.1) (hN0.trans hq1)
    | true=>
      have HB:=hid (hb1.1 rfl)
      clear hb1
      go_wp2_with fail
      refine (Kz _ post _ _ _ ((r1.nw hN0).nw hq1) hh).mono ?_
      rintro e w2 ⟨b2,rfl,hb2,hq2⟩
      have HB2:=hid hb2
      clear hb2
      have HQP:=hid hqp
      clear hqp
      go_wp2
      go_ret
      refine RetB.of ?_ ((hN0.trans hq1).trans hq2)
      have h2:=HB2.out
      cases b2 with
      | false=>simp only[Bool.not_false,true_iff]; exact fun h=>by have:=h2.2 h.2.2; cases this
      | true=>simp only[cK,bi,false_iff]; exact fun h=>h ⟨by rw[← HQP.out]; simp,HB.out,h2.1 rfl⟩
theorem Qfa (a0 a1:Value)(n:Xj)(w:World)(hn:Rep UD w [a0,a1] n):
    Calls Tryz.prog 262 #[.agg #[a0,a1]] w (RetB (Xv n) w):=by
  obtain ⟨p,ts⟩:=n
  obtain ⟨rP,rT⟩:=hn.open2 rfl
  dsimp only at rP rT
  obtain ⟨rfl,hp1,hp2⟩:=rP.int_
  obtain ⟨A,c,rfl,hl,hc⟩:=rT.slv
  have hm:ts.length≤9223372036854775807:=by unfold maxLen at hc; omega
  obtain ⟨hi,hhi⟩:∃hi,IntKind.i64.wrap (p - 1)=hi:=⟨_,rfl⟩
  have HHI:=hid hhi
  have HNO:=hid (fun (h:Xv (p,ts)) (k:Nat)=>Qk0 hhi h (k:=k))
  have HYES:=hid (fun h1 h2 h3=>Qlh (ts:=ts) hhi h1 h2 h3)
  generalize hPP:Xv (p,ts)=PP at*
  have HPP:=hid hPP
  clear hPP rP hhi
  go_enter Tryz.func262,Tryz.ntmps262
  obtain ⟨W0,hW0,hN0,hcA,hsz⟩:=KT w #[.int .i64 p, .slice A ts.length c] 25
  have a0:=hcA 0
  have a1:=hcA 1
  simp only[ce,bh,bJ] at a0 a1
  have hs0:w.heap.size < W0.heap.size:=by omega
  clear hcA hsz
  go_wp2_with fail
  rw[← hW0]
  have HW:=hid hW0
  clear hW0
  refine (W3 _ _ _ _).mono ?_
  rintro e w1 ⟨b1,rfl,hb1,hq1⟩
  obtain ⟨hc1,hf1⟩:=hq1.cells
  cases b1 with
  | false=>
    have HB:=hid (RetB.not hb1)
    clear hb1
    go_wp2
    go_ret
    exact RetB.no (fun h=>by rw[← HPP.out] at h; exact HB.out h.1) (hN0.trans hq1)
  | true=>
    have HB:=hid (hb1.1 rfl)
    clear hb1
    by_cases h24:ts.length≤24
    · have hd : decide ((24 : Int) < (ts.length : Int)) = false := aP (by omega)
      have H24:=hid h24
      clear h24
      go_wp2_with fail
      refine (Us (fun t=>¬QqL hi t) ts _ _ _ _ (rT.nw (hN0.trans hq1)) QaQ ?_).mono ?_
      · intro i y W u0 u1 hi' hqW hy
        exact QcJ u0 u1 y _ p hi W hy (by rw[(hqW.cells).1 _ _ (by have:=hq1.size; omega),hc1 _ _ hs0]; exact a0) HHI.out
      · rintro e w3 ⟨b3, rfl, hb3, hq3⟩
        have HB3:=hid hb3
        clear hb3
        go_wp2
        go_ret
        refine RetB.of ?_ ((hN0.trans hq1).trans hq3)
        have h3:=HB3.out
        cases b3 with
        | false=>
          simp only[Bool.not_false,true_iff]
          refine HYES.out (fun j hj t ht=> ?_) HB.out H24.out
          exact bV fun hne=>by
            have:=h3.2 ⟨t,ai ht,hne⟩
            cases this
        | true=>
          simp only[cK,bi,false_iff]
          intro h
          obtain ⟨t,ht,hne⟩:=h3.1 rfl
          obtain ⟨j,hj⟩:=aS.1 ht
          exact hne (HNO.out h j t hj)
    · have hd : decide ((24 : Int) < (ts.length : Int)) = true := aK (by omega)
      have H24:=hid h24
      clear h24
      go_wp2
      go_ret
      exact RetB.no (fun h=>by rw[← HPP.out] at h; exact H24.out h.2.1) (hN0.trans hq1)
theorem BitsAt.step {s:ByteArray}{k:Nat}(h:∀j,j < k→BitsAt s j)(hk:BitsAt s k):∀j,j < k+1→BitsAt s j:=by
  intro j hj
  by_cases e:j=k
  · subst e; exact hk
  · exact h j (by omega)
theorem QjQ (a0 a1:Value)(n:Xj)(s:ByteArray)(w:World)(hn:Rep UD w [a0,a1] n)(hs:s.size≤maxLen):
    Calls Tryz.prog 172 #[.agg #[a0,a1], .string s] w (RetB (W8 s n.1) w):=by
  have hm:s.size≤9223372036854775807:=hs
  obtain ⟨p,ts⟩:=n
  obtain ⟨rP,rT⟩:=hn.open2 rfl
  dsimp only at rP rT ⊢
  obtain ⟨rfl,hp1,hp2⟩:=rP.int_
  obtain ⟨A,c,rfl,hl,hc⟩:=rT.slv
  clear rP rT hn
  go_enter Tryz.func172,Tryz.ntmps172
  go_wp2
  go_loop [5] (fun i=>∃k:Nat,k≤s.size∧i= .int .i64 k∧∀j,j < k→BitsAt s j) (fun i=>s.size - (intOf i).toNat)
  case atStart=>exact ⟨0,aw _,rfl,fun j h=>absurd h (by omega)⟩
  case round=>
    obtain ⟨k,hk,rfl,hyes⟩:=hrel
    have HY:=hid hyes
    clear hyes
    by_cases hlt:k < s.size
    · rcases (by omega : s[k].toNat = 48 ∨ s[k].toNat = 49 ∨ (s[k].toNat ≠ 48 ∧ s[k].toNat ≠ 49)) with h | h | ⟨h, h'⟩
      · have e1 := He (a := (s[k].toNat : Int)) (b := 48) (by omega)
        have H:=hid (show BitsAt s k from fun _=> .inl h)
        clear h
        go_wp2
        go_round
        case rel=>exact ⟨k+1,by omega,by go_num,BitsAt.step HY.out H.out⟩
        case measure=>simp[intOf]; omega
      · have e1 := Kw (a := (s[k].toNat : Int)) (b := 48) (by omega)
        have e2:=He (a:=(s[k].toNat:Int)) (b:=49) (by omega)
        have H:=hid (show BitsAt s k from fun _=> .inr h)
        clear h
        go_wp2
        go_round
        case rel=>exact ⟨k+1,by omega,by go_num,BitsAt.step HY.out H.out⟩
        case measure=>simp[intOf]; omega
      · have e1 := Kw (a := (s[k].toNat : Int)) (b := 48) (by omega)
        have e2:=Kw (a:=(s[k].toNat:Int)) (b:=49) (by omega)
        have H:=hid (show¬W8 s p from fun hb=>by rcases hb.1 k hlt hlt with e | e <;> contradiction)
        clear h h'
        go_wp2
        go_ret
        exact RetB.no H.out (by (repeat (first | with_reducible exact Zj _ | with_reducible assumption | with_reducible apply Nw.alloc | with_reducible apply Nw.drew | with_reducible apply Nw.drewN | (with_reducible refine Zv ?_ ?_; focus (first | (simp; done) | (simp; omega))) | with_reducible refine ZT ‹_› ?_)))
    · have : k = s.size := by omega
      subst this
      by_cases hp:(s.size:Int)=p
      · have e1 := Ke hp
        have H:=hid (show W8 s p from ⟨fun j hj=>HY.out j hj,hp⟩)
        clear hp
        go_wp2
        go_ret
        exact RetB.of (by simp only[e1,H.out]) (by (repeat (first | with_reducible exact Zj _ | with_reducible assumption | with_reducible apply Nw.alloc | with_reducible apply Nw.drew | with_reducible apply Nw.drewN | (with_reducible refine Zv ?_ ?_; focus (first | (simp; done) | (simp; omega))) | with_reducible refine ZT ‹_› ?_)))
      · have e1 := WA hp
        have H:=hid (show¬W8 s p from fun h=>hp h.2)
        clear hp
        go_wp2
        go_ret
        exact RetB.of (by simp only[e1,bi,false_iff]; exact H.out) (by (repeat (first | with_reducible exact Zj _ | with_reducible assumption | with_reducible apply Nw.alloc | with_reducible apply Nw.drew | with_reducible apply Nw.drewN | (with_reducible refine Zv ?_ ?_; focus (first | (simp; done) | (simp; omega))) | with_reducible refine ZT ‹_› ?_)))
theorem Qjv (s:ByteArray)(p:Int)(w:World)(hs:s.size≤maxLen):
    Calls Tryz.prog 176 #[.string s, .int .i64 p] w (RetB (W8 s p) w):=by
  have hm:s.size≤9223372036854775807:=hs
  go_enter Tryz.func176,Tryz.ntmps176
  go_wp2
  go_loop [5] (fun i=>∃k:Nat,k≤s.size∧i= .int .i64 k∧∀j,j < k→BitsAt s j) (fun i=>s.size - (intOf i).toNat)
  case atStart=>exact ⟨0,aw _,rfl,fun j h=>absurd h (by omega)⟩
  case round=>
    obtain ⟨k,hk,rfl,hyes⟩:=hrel
    have HY:=hid hyes
    clear hyes
    by_cases hlt:k < s.size
    · rcases (by omega : s[k].toNat = 48 ∨ s[k].toNat = 49 ∨ (s[k].toNat ≠ 48 ∧ s[k].toNat ≠ 49)) with h | h | ⟨h, h'⟩
      · have e1 := He (a := (s[k].toNat : Int)) (b := 48) (by omega)
        have H:=hid (show BitsAt s k from fun _=> .inl h)
        clear h
        go_wp2
        go_round
        case rel=>exact ⟨k+1,by omega,by go_num,BitsAt.step HY.out H.out⟩
        case measure=>simp[intOf]; omega
      · have e1 := Kw (a := (s[k].toNat : Int)) (b := 48) (by omega)
        have e2:=He (a:=(s[k].toNat:Int)) (b:=49) (by omega)
        have H:=hid (show BitsAt s k from fun _=> .inr h)
        clear h
        go_wp2
        go_round
        case rel=>exact ⟨k+1,by omega,by go_num,BitsAt.step HY.out H.out⟩
        case measure=>simp[intOf]; omega
      · have e1 := Kw (a := (s[k].toNat : Int)) (b := 48) (by omega)
        have e2:=Kw (a:=(s[k].toNat:Int)) (b:=49) (by omega)
        have H:=hid (show¬W8 s p from fun hb=>by rcases hb.1 k hlt hlt with e | e <;> contradiction)
        clear h h'
        go_wp2
        go_ret
        exact RetB.no H.out (Zj _)
    · have : k = s.size := by omega
      subst this
      by_cases hp:(s.size:Int)=p
      · have e1 := Ke hp
        have H:=hid (show W8 s p from ⟨fun j hj=>HY.out j hj,hp⟩)
        clear hp
        go_wp2
        go_ret
        exact RetB.of (by simp only[e1,H.out]) (Zj _)
      · have e1 := WA hp
        have H:=hid (show¬W8 s p from fun h=>hp h.2)
        clear hp
        go_wp2
        go_ret
        exact RetB.of (by simp only[e1,bi,false_iff]; exact H.out) (Zj _)
theorem Qax (a0 a1:Value)(n:Xj)(s:ByteArray)(w:World)(hn:Rep UD w [a0,a1] n)(hs:s.size≤maxLen):
    Calls Tryz.prog 163 #[.agg #[a0,a1], .string s] w (RetB (Xv n∧W8 s n.1) w):=by
  have hn1:=hn
  obtain ⟨p,ts⟩:=n
  obtain ⟨rP,rT⟩:=hn1.open2 rfl
  dsimp only at rP rT ⊢
  obtain ⟨rfl,hp1,hp2⟩:=rP.int_
  go_enter Tryz.func163,Tryz.ntmps163
  obtain ⟨W0,hW0,hN0,hcA,hsz⟩:=KT w #[.int .i64 p,a1] 25
  have a0:=hcA 0
  have a1:=hcA 1
  simp only[ce,bh,bJ] at a0 a1
  have hs0:w.heap.size < W0.heap.size:=by omega
  clear hcA hsz
  go_wp2_with fail
  rw[← hW0]
  have HW:=hid hW0
  clear hW0
  refine (Qfa _ _ (p,ts) _ (hn.nw hN0)).mono ?_
  rintro e w1 ⟨b1,rfl,hb1,hq1⟩
  obtain ⟨hc1,hf1⟩:=hq1.cells
  cases b1 with
  | false=>
    have HB:=hid (RetB.not hb1)
    clear hb1
    go_wp2
    go_ret
    exact RetB.no (fun h=>HB.out h.1) (hN0.trans hq1)
  | true=>
    have HB:=hid (hb1.1 rfl)
    clear hb1
    go_wp2_with fail
    refine (Qjv s p _ hs).mono ?_
    rintro e w2 ⟨b2,rfl,hb2,hq2⟩
    have HB2:=hid hb2
    clear hb2
    go_wp2
    go_ret
    exact RetB.of (HB2.out.trans ⟨fun h=>⟨HB.out,h⟩,fun h=>h.2⟩) ((hN0.trans hq1).trans hq2)
end Go.Proofs.YtjaadeknhofhpaaGreat
