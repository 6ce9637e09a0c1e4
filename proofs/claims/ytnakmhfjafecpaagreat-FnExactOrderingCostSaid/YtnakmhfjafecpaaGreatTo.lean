/- The measures of the laws: what each 'sz..' returns. -/
import Derived.Test.YtnakmhfjafecpaaGreatOwn
import Derived.Test.YtnakmhfjafecpaaGreatProg
set_option linter.unusedSimpArgs false
set_option linter.unusedVariables false
set_option linter.unusedSectionVars false
namespace Go.Proofs.YtnakmhfjafecpaaGreat
set_option maxHeartbeats 4000000
set_option maxRecDepth 100000
open Go.RowKit
theorem VL {E:TypeId}{e:Ty}(xs:List e.Den):Ty.tot (.sl E e) xs=xs.length+(xs.map e.tot).sum:=rfl
def CutTo (l:Int)(t:Nat)(l':Int):Prop:=(l < t∧l'= -1)∨(t≤l∧l'=l - t)
theorem CutTo.le {l l':Int}{t:Nat}(h:CutTo l t l')(h0:0≤l)(h1:l≤1048576): -1≤l'∧l'≤1048576:=by unfold CutTo at h; omega
def SzPost (w:World)(l:Int)(t:Nat)(e:Ending)(w':World):Prop:=∃l',e= .returned (.int .i64 l')∧CutTo l t l'∧Nw w w'
theorem QeP (v0 v1:Value)(x:Zc)(left:Int)(w:World)(hr:Rep Zp w [v0,v1] x)(h0:0≤left)(h1:left≤1048576):
    Calls Tryz.prog 105 #[.agg #[v0,v1], .int .i64 left] w (SzPost w left (Ty.tot Zp x)):=by
  obtain ⟨x0,x1⟩:=x
  obtain ⟨r0,q0⟩:=hr.pr1 rfl
  have r1:=q0
  obtain ⟨rfl,hs0⟩:=r0.str_
  have hs0:x0.size≤9223372036854775807:=hs0
  obtain ⟨rfl,hi1a,hi1b⟩:=r1.int_
  have ht:Ty.tot Zp (x0,x1)=x0.size+(0):=rfl
  rw[ht]
  go_enter Tryz.func105,Tryz.ntmps105
  go_wp2
  all_goals
    go_ret
    (try unfold CutTo at*)
    exact ⟨_,rfl,by unfold CutTo; omega,by (repeat (first | with_reducible exact Qs _ | with_reducible assumption | with_reducible apply Nw.alloc | with_reducible apply Nw.drew | with_reducible apply Nw.drewN | (with_reducible refine Qo ?_ ?_; focus (first | (simp; done) | (simp; omega))) | with_reducible refine Qz (by assumption) ?_))⟩
theorem Qdm (v:Value)(xs:List (Zc))(left:Int)(w:World)(hr:Rep (.sl 153 Zp) w [v] xs)(h0:0≤left)(h1:left≤1048576):
    Calls Tryz.prog 50 #[v, .int .i64 left] w (SzPost w left (Ty.tot (.sl 153 Zp) xs)):=by
  obtain ⟨A,c,rfl,hl,hc⟩:=hr.slv
  have hm:xs.length≤9223372036854775807:=by unfold maxLen at hc; omega
  go_enter Tryz.func50,Tryz.ntmps50
  go_wp2
  · go_ret
    exact ⟨_,rfl,by unfold CutTo; rw[VL]; omega,Qs _⟩
  · rename_i hge
    have hge:0≤left - xs.length:=by omega
    go_loopw [1,5] (fun l i wr=>∃k:Nat,k≤xs.length∧i= .int .i64 k∧l= .int .i64 (left - xs.length - ((xs.take k).map (Ty.tot Zp)).sum)∧0≤left - xs.length - ((xs.take k).map (Ty.tot Zp)).sum∧Nw w wr)
      (fun _ i _=>xs.length - (intOf i).toNat)
    case atStart=>exact ⟨0,Nat.zero_le _,rfl,by simp,by simpa using hge,Qs _⟩
    case round=>
      obtain ⟨k,hk,rfl,rfl,hl,hq⟩:=hrel
      have h2:=Wb (Ty.tot Zp) xs k
      by_cases hlt:k < xs.length
      · obtain ⟨b, o, v0, v1, rfl, hx, c0, c1⟩ := (hr.nw hq).at2 rfl (List.getElem?_eq_getElem hlt)
        have hs:=VN (Ty.tot Zp) xs k hlt
        generalize hS:((xs.take k).map (Ty.tot Zp)).sum=S at*
        clear hS
        generalize hS':((xs.take (k+1)).map (Ty.tot Zp)).sum=S' at*
        have HS:Hid (S'=S+Ty.tot Zp xs[k]):=hs
        clear hs
        go_wp2_with (go_at_call 105; refine (QeP _ _ _ _ _ (by exact hx) (by omega) (by omega)).mono ?_; rintro e w1 ⟨l1,rfl,hl1,hq1⟩; have hb1:=hl1.le (by omega) (by omega))
        · rename_i hneg
          have h4:=HS.out
          have h5:=Wb (Ty.tot Zp) xs (k+1)
          unfold CutTo at hl1
          go_ret
          exact ⟨_,rfl,by unfold CutTo; rw[VL]; omega,hq.trans hq1⟩
        · go_roundw
          case rel=>
            rename_i hneg
            have h4:=HS.out
            unfold CutTo at hl1
            exact ⟨k+1,by omega,by go_num,by rw[hS']; simp; omega,by rw[hS']; omega,hq.trans hq1⟩
          case measure=>simp[intOf]; omega
      · go_wp2
        go_ret
        have:k=xs.length:=by omega
        subst this
        rw[List.take_length] at hl ⊢
        exact ⟨_,rfl,by unfold CutTo; rw[VL]; omega,hq⟩
theorem Qh7 (v:Value)(xs:List (Int))(left:Int)(w:World)(hr:Rep (.sl 3 .int) w [v] xs)(h0:0≤left)(h1:left≤1048576):
    Calls Tryz.prog 248 #[v, .int .i64 left] w (SzPost w left (Ty.tot (.sl 3 .int) xs)):=by
  obtain ⟨A,c,rfl,hl,hc⟩:=hr.slv
  have hm:xs.length≤9223372036854775807:=by unfold maxLen at hc; omega
  have hz:Ty.tot (.sl 3 .int) xs=xs.length:=by rw[VL,Hv xs (Ty.tot .int) (fun _=>rfl)]; rfl
  rw[hz]
  go_enter Tryz.func248,Tryz.ntmps248
  go_wp2
  all_goals
    go_ret
    exact ⟨_,rfl,by unfold CutTo; omega,Qs _⟩
theorem Qan (v0 v1:Value)(x:QJ)(left:Int)(w:World)(hr:Rep QZ w [v0,v1] x)(h0:0≤left)(h1:left≤1048576):
    Calls Tryz.prog 180 #[.agg #[v0,v1], .int .i64 left] w (SzPost w left (Ty.tot QZ x)):=by
  obtain ⟨x0,x1⟩:=x
  obtain ⟨r0,q0⟩:=hr.pr1 rfl
  have r1:=q0
  have ht:Ty.tot QZ (x0,x1)=Ty.tot (.sl 3 .int) x0+(Ty.tot (.sl 3 .int) x1):=rfl
  rw[ht]
  go_enter Tryz.func180,Tryz.ntmps180
  go_wp2_with (first | (go_at_call 248; refine (Qh7 _ _ _ _ (by first | exact r0.nw (by (repeat (first | with_reducible exact Qs _ | with_reducible assumption | with_reducible apply Nw.alloc | with_reducible apply Nw.drew | with_reducible apply Nw.drewN | (with_reducible refine Qo ?_ ?_; focus (first | (simp; done) | (simp; omega))) | with_reducible refine Qz (by assumption) ?_))) | exact r1.nw (by (repeat (first | with_reducible exact Qs _ | with_reducible assumption | with_reducible apply Nw.alloc | with_reducible apply Nw.drew | with_reducible apply Nw.drewN | (with_reducible refine Qo ?_ ?_; focus (first | (simp; done) | (simp; omega))) | with_reducible refine Qz (by assumption) ?_)))) (by omega) (by omega)).mono ?_; rintro e w1 ⟨l1,rfl,hl1,hq1⟩; have hb1:=hl1.le (by omega) (by omega); obtain ⟨hc1,hf1⟩:=hq1.cells; have hz1:w.heap.size < w1.heap.size:=by (have hz2:=hq1.size; (try simp at hz2); omega)))
  all_goals
    go_ret
    (try unfold CutTo at*)
    exact ⟨_,rfl,by unfold CutTo; omega,by (repeat (first | with_reducible exact Qs _ | with_reducible assumption | with_reducible apply Nw.alloc | with_reducible apply Nw.drew | with_reducible apply Nw.drewN | (with_reducible refine Qo ?_ ?_; focus (first | (simp; done) | (simp; omega))) | with_reducible refine Qz (by assumption) ?_))⟩
theorem HA (v:Value)(xs:List (QJ))(left:Int)(w:World)(hr:Rep (.sl 222 QZ) w [v] xs)(h0:0≤left)(h1:left≤1048576):
    Calls Tryz.prog 104 #[v, .int .i64 left] w (SzPost w left (Ty.tot (.sl 222 QZ) xs)):=by
  obtain ⟨A,c,rfl,hl,hc⟩:=hr.slv
  have hm:xs.length≤9223372036854775807:=by unfold maxLen at hc; omega
  go_enter Tryz.func104,Tryz.ntmps104
  go_wp2
  · go_ret
    exact ⟨_,rfl,by unfold CutTo; rw[VL]; omega,Qs _⟩
  · rename_i hge
    have hge:0≤left - xs.length:=by omega
    go_loopw [1,5] (fun l i wr=>∃k:Nat,k≤xs.length∧i= .int .i64 k∧l= .int .i64 (left - xs.length - ((xs.take k).map (Ty.tot QZ)).sum)∧0≤left - xs.length - ((xs.take k).map (Ty.tot QZ)).sum∧Nw w wr)
      (fun _ i _=>xs.length - (intOf i).toNat)
    case atStart=>exact ⟨0,Nat.zero_le _,rfl,by simp,by simpa using hge,Qs _⟩
    case round=>
      obtain ⟨k,hk,rfl,rfl,hl,hq⟩:=hrel
      have h2:=Wb (Ty.tot QZ) xs k
      by_cases hlt:k < xs.length
      · obtain ⟨b, o, v0, v1, rfl, hx, c0, c1⟩ := (hr.nw hq).at2 rfl (List.getElem?_eq_getElem hlt)
        have hs:=VN (Ty.tot QZ) xs k hlt
        generalize hS:((xs.take k).map (Ty.tot QZ)).sum=S at*
        clear hS
        generalize hS':((xs.take (k+1)).map (Ty.tot QZ)).sum=S' at*
        have HS:Hid (S'=S+Ty.tot QZ xs[k]):=hs
        clear hs
        go_wp2_with (go_at_call 180; refine (Qan _ _ _ _ _ (by exact hx) (by omega) (by omega)).mono ?_; rintro e w1 ⟨l1,rfl,hl1,hq1⟩; have hb1:=hl1.le (by omega) (by omega))
        · rename_i hneg
          have h4:=HS.out
          have h5:=Wb (Ty.tot QZ) xs (k+1)
          unfold CutTo at hl1
          go_ret
          exact ⟨_,rfl,by unfold CutTo; rw[VL]; omega,hq.trans hq1⟩
        · go_roundw
          case rel=>
            rename_i hneg
            have h4:=HS.out
            unfold CutTo at hl1
            exact ⟨k+1,by omega,by go_num,by rw[hS']; simp; omega,by rw[hS']; omega,hq.trans hq1⟩
          case measure=>simp[intOf]; omega
      · go_wp2
        go_ret
        have:k=xs.length:=by omega
        subst this
        rw[List.take_length] at hl ⊢
        exact ⟨_,rfl,by unfold CutTo; rw[VL]; omega,hq⟩
theorem Qkl (v0 v1:Value)(x:Y0)(left:Int)(w:World)(hr:Rep Qdj w [v0,v1] x)(h0:0≤left)(h1:left≤1048576):
    Calls Tryz.prog 49 #[.agg #[v0,v1], .int .i64 left] w (SzPost w left (Ty.tot Qdj x)):=by
  obtain ⟨x0,x1⟩:=x
  obtain ⟨r0,q0⟩:=hr.pr1 rfl
  have r1:=q0
  obtain ⟨rfl,hi0a,hi0b⟩:=r0.int_
  have ht:Ty.tot Qdj (x0,x1)=0+(Ty.tot (.sl 222 QZ) x1):=rfl
  rw[ht]
  go_enter Tryz.func49,Tryz.ntmps49
  go_wp2_with (first | (go_at_call 104; refine (HA _ _ _ _ (by first | exact r1.nw (by (repeat (first | with_reducible exact Qs _ | with_reducible assumption | with_reducible apply Nw.alloc | with_reducible apply Nw.drew | with_reducible apply Nw.drewN | (with_reducible refine Qo ?_ ?_; focus (first | (simp; done) | (simp; omega))) | with_reducible refine Qz (by assumption) ?_)))) (by omega) (by omega)).mono ?_; rintro e w1 ⟨l1,rfl,hl1,hq1⟩; have hb1:=hl1.le (by omega) (by omega); obtain ⟨hc1,hf1⟩:=hq1.cells; have hz1:w.heap.size < w1.heap.size:=by (have hz2:=hq1.size; (try simp at hz2); omega)))
  all_goals
    go_ret
    (try unfold CutTo at*)
    exact ⟨_,rfl,by unfold CutTo; omega,by (repeat (first | with_reducible exact Qs _ | with_reducible assumption | with_reducible apply Nw.alloc | with_reducible apply Nw.drew | with_reducible apply Nw.drewN | (with_reducible refine Qo ?_ ?_; focus (first | (simp; done) | (simp; omega))) | with_reducible refine Qz (by assumption) ?_))⟩
theorem Qe2 (v:Value)(xs:List (Zn))(left:Int)(w:World)(hr:Rep (.sl 51 Xk) w [v] xs)(h0:0≤left)(h1:left≤1048576):
    Calls Tryz.prog 51 #[v, .int .i64 left] w (SzPost w left (Ty.tot (.sl 51 Xk) xs)):=by
  obtain ⟨A,c,rfl,hl,hc⟩:=hr.slv
  have hm:xs.length≤9223372036854775807:=by unfold maxLen at hc; omega
  have hz:Ty.tot (.sl 51 Xk) xs=xs.length:=by rw[VL,Hv xs (Ty.tot Xk) (fun _=>rfl)]; rfl
  rw[hz]
  go_enter Tryz.func51,Tryz.ntmps51
  go_wp2
  all_goals
    go_ret
    exact ⟨_,rfl,by unfold CutTo; omega,Qs _⟩
theorem QkQ (v0 v1 v2 v3 v4:Value)(x:Q5)(left:Int)(w:World)(hr:Rep UM w [v0,v1,v2,v3,v4] x)(h0:0≤left)(h1:left≤1048576):
    Calls Tryz.prog 11 #[.agg #[v0,v1,v2,v3,v4], .int .i64 left] w (SzPost w left (Ty.tot UM x)):=by
  obtain ⟨x0,x1,x2,x3⟩:=x
  obtain ⟨r0,q0⟩:=hr.pr2 rfl
  obtain ⟨r1,q1⟩:=q0.pr1 rfl
  obtain ⟨r2,q2⟩:=q1.pr1 rfl
  have r3:=q2
  obtain ⟨rfl,hs3⟩:=r3.str_
  have hs3:x3.size≤9223372036854775807:=hs3
  have ht:Ty.tot UM (x0,x1,x2,x3)=Ty.tot Qdj x0+(Ty.tot (.sl 153 Zp) x1+(Ty.tot (.sl 51 Xk) x2+(x3.size))):=rfl
  rw[ht]
  go_enter Tryz.func11,Tryz.ntmps11
  go_wp2_with (first | (go_at_call 49; refine (Qkl _ _ _ _ _ (by first | exact r0.nw (by (repeat (first | with_reducible exact Qs _ | with_reducible assumption | with_reducible apply Nw.alloc | with_reducible apply Nw.drew | with_reducible apply Nw.drewN | (with_reducible refine Qo ?_ ?_; focus (first | (simp; done) | (simp; omega))) | with_reducible refine Qz (by assumption) ?_)))) (by omega) (by omega)).mono ?_; rintro e w1 ⟨l1,rfl,hl1,hq1⟩; have hb1:=hl1.le (by omega) (by omega); obtain ⟨hc1,hf1⟩:=hq1.cells; have hz1:w.heap.size < w1.heap.size:=by (have hz2:=hq1.size; (try simp at hz2); omega)) | (go_at_call 50; refine (Qdm _ _ _ _ (by first | exact r1.nw (by (repeat (first | with_reducible exact Qs _ | with_reducible assumption | with_reducible apply Nw.alloc | with_reducible apply Nw.drew | with_reducible apply Nw.drewN | (with_reducible refine Qo ?_ ?_; focus (first | (simp; done) | (simp; omega))) | with_reducible refine Qz (by assumption) ?_)))) (by omega) (by omega)).mono ?_; rintro e w1 ⟨l1,rfl,hl1,hq1⟩; have hb1:=hl1.le (by omega) (by omega); obtain ⟨hc1,hf1⟩:=hq1.cells; have hz1:w.heap.size < w1.heap.size:=by (have hz2:=hq1.size; (try simp at hz2); omega)) | (go_at_call 51; refine (Qe2 _ _ _ _ (by first | exact r2.nw (by (repeat (first | with_reducible exact Qs _ | with_reducible assumption | with_reducible apply Nw.alloc | with_reducible apply Nw.drew | with_reducible apply Nw.drewN | (with_reducible refine Qo ?_ ?_; focus (first | (simp; done) | (simp; omega))) | with_reducible refine Qz (by assumption) ?_)))) (by omega) (by omega)).mono ?_; rintro e w1 ⟨l1,rfl,hl1,hq1⟩; have hb1:=hl1.le (by omega) (by omega); obtain ⟨hc1,hf1⟩:=hq1.cells; have hz1:w.heap.size < w1.heap.size:=by (have hz2:=hq1.size; (try simp at hz2); omega)))
  all_goals
    go_ret
    (try unfold CutTo at*)
    exact ⟨_,rfl,by unfold CutTo; omega,by (repeat (first | with_reducible exact Qs _ | with_reducible assumption | with_reducible apply Nw.alloc | with_reducible apply Nw.drew | with_reducible apply Nw.drewN | (with_reducible refine Qo ?_ ?_; focus (first | (simp; done) | (simp; omega))) | with_reducible refine Qz (by assumption) ?_))⟩
end Go.Proofs.YtnakmhfjafecpaaGreat
namespace Go.Proofs.YtnakmhfjafecpaaGreat
set_option maxHeartbeats 4000000
set_option maxRecDepth 100000
open Go.RowKit
theorem Qfh {e:Ty}{E:TypeId}{xs:List e.Den}{k:Nat}(h:k < xs.length):Ty.tot e xs[k]≤Ty.tot (.sl E e) xs:=by
  rw[VL]
  have h1:=VN (Ty.tot e) xs k h
  have h2:=Wb (Ty.tot e) xs (k+1)
  omega
theorem Qa9 {e:Ty}{E:TypeId}(xs:List e.Den):xs.length≤Ty.tot (.sl E e) xs:=by rw[VL]; omega
theorem Qfk (v0 v1:Value)(x:Zc)(w:World)(hr:Rep Zp w [v0,v1] x)(hz:Ty.tot Zp x≤1048576):
    Calls Tryz.prog 112 #[.agg #[v0,v1]] w (Qnh ZL w x):=by
  obtain ⟨x0,x1⟩:=x
  obtain ⟨r0,q0⟩:=hr.pr1 rfl
  have r1:=q0
  obtain ⟨rfl,hs0⟩:=r0.str_
  have hs0:x0.size≤9223372036854775807:=hs0
  obtain ⟨rfl,hi1a,hi1b⟩:=r1.int_
  have ht:Ty.tot Zp (x0,x1)=x0.size+(0):=rfl
  rw[ht] at hz
  clear ht
  go_enter Tryz.func112,Tryz.ntmps112
  skip
  go_wp2
  refine bodyPost_ret (v:= .agg #[.string x0, .int .i64 x1]) (by simp only[results,Tryz.results112]; go_simp) rfl ⟨_,_,rfl, ?_, ?_⟩
  · refine Frs.mono (B := w.heap.size) (U := w.heap.size) ?_ (Nat.le_refl _) (by simp <;> omega)
    (refine XG (a:= .str) (b:= .int) (l:=[.string x0]) (r:=[.int .i64 x1]) (x:=x0) (y:=(x1)) (M:=w.heap.size) ?_ ?_ (by omega) (by omega); (focus (exact Frs.str (x:=x0) hs0)); (exact Frs.int (x:=x1) ⟨hi1a,hi1b⟩))
  · (repeat (first | with_reducible exact Qs _ | with_reducible assumption | with_reducible apply Nw.alloc | with_reducible apply Nw.drew | with_reducible apply Nw.drewN | (with_reducible refine Qo ?_ ?_; focus (first | (simp; done) | (simp; omega))) | with_reducible refine Qz (by assumption) ?_))
theorem Qhx:(Tryz.prog.info? 145).map (fun i=>(i.zero,i.size,i.bytes))=some (some (.agg #[.string ByteArray.empty, .int .i64 0]),2,24):=by kernel_rfl
theorem QdA (v:Value)(xs:List (Zc))(w:World)(hr:Rep (.sl 153 Zp) w [v] xs)(hz:Ty.tot (.sl 153 Zp) xs≤1048576):
    Calls Tryz.prog 55 #[v] w (Qns 145 ZL w xs):=by
  obtain ⟨A,c,rfl,hl,hc⟩:=hr.slv
  have hm:xs.length≤1048576:=Nat.le_trans (Qa9 (e:=Zp) xs) hz
  have hmk:=Vb (P:=Tryz.prog) 36 145 (.agg #[.string ByteArray.empty, .int .i64 0]) 2 24 Tryz.underlying36 Qhx xs.length (by omega) (by omega)
  have hst:=Fill.start (e:=ZL) w 145 (madeCells (Value.cells (.agg #[.string ByteArray.empty, .int .i64 0])) (xs.length*2)) xs.length ((size_madeCells _ _).trans rfl) xs
  go_enter Tryz.func55,Tryz.ntmps55
  go_wp2
  clear hmk
  go_loopw [4] (fun i wr=>∃k:Nat,k≤xs.length∧i= .int .i64 k∧Fill ZL 145 w w.heap.size xs.length k wr xs) (fun i _=>xs.length - (intOf i).toNat)
  case atStart=>exact ⟨0,Nat.zero_le _,rfl,hst⟩
  case round=>
    clear hst
    obtain ⟨k,hk,rfl,hF⟩:=hrel
    have hlt1:=hF.lt
    by_cases hlt:k < xs.length
    · obtain ⟨b, o, v0, v1, rfl, hx, c0, c1⟩ := (hr.nw hF.nw).at2 rfl (List.getElem?_eq_getElem hlt)
      have hzk:=Qfh (e:=Zp) (E:=153) hlt
      go_wp2_with (go_at_call 112; refine (Qfk _ _ _ _ (by exact hx) (by omega)).mono ?_; rintro e w1 ⟨u0,u1,rfl,hf,hq1⟩; have ho0:u0.oneCell'=true:=hf.rep.one _ (by simp); have ho1:u1.oneCell'=true:=hf.rep.one _ (by simp); obtain ⟨p0,p1,e0,f0,e1,f1⟩:=hF.cells2 hq1 hlt rfl)
      go_roundw
      case rel=>exact ⟨k+1,by omega,by go_num,hF.step hq1 hlt (List.getElem?_eq_getElem hlt) hf⟩
      case measure=>simp[intOf]; omega
    · go_wp2
      go_ret
      have:k=xs.length:=by omega
      subst this
      exact ⟨_,_,rfl,(hF.done rfl (by unfold maxLen; omega)).mono hF.base (Nat.le_refl _),hF.nw⟩
theorem QnO:(Tryz.prog.info? 3).map (fun i=>(i.zero,i.size,i.bytes))=some (some (.int .i64 0),1,8):=by kernel_rfl
theorem QcK (v:Value)(xs:List (Int))(w:World)(hr:Rep (.sl 3 .int) w [v] xs)(hz:Ty.tot (.sl 3 .int) xs≤1048576):
    Calls Tryz.prog 250 #[v] w (Qns 3 .int w xs):=by
  obtain ⟨A,c,rfl,hl,hc⟩:=hr.slv
  have hm:xs.length≤1048576:=Nat.le_trans (Qa9 (e:= .int) xs) hz
  have hmk:=Vb (P:=Tryz.prog) 106 3 (.int .i64 0) 1 8 Tryz.underlying106 QnO xs.length (by omega) (by omega)
  have hst:=Fill.start (e:= .int) w 3 (madeCells (Value.cells (.int .i64 0)) (xs.length*1)) xs.length ((size_madeCells _ _).trans rfl) xs
  rw[Nat.mul_one] at hst
  go_enter Tryz.func250,Tryz.ntmps250
  go_wp2
  clear hmk
  go_loopw [4] (fun i wr=>∃k:Nat,k≤xs.length∧i= .int .i64 k∧Fill .int 3 w w.heap.size xs.length k wr xs) (fun i _=>xs.length - (intOf i).toNat)
  case atStart=>exact ⟨0,Nat.zero_le _,rfl,hst⟩
  case round=>
    clear hst
    obtain ⟨k,hk,rfl,hF⟩:=hrel
    have hlt1:=hF.lt
    by_cases hlt:k < xs.length
    · obtain ⟨b, o, v0, rfl, hx, c0⟩ := (hr.nw hF.nw).at1 rfl (List.getElem?_eq_getElem hlt)
      obtain ⟨rfl,hsz⟩:=hx.int_
      obtain ⟨p0,e0,f0⟩:=hF.cells1 (Qs _) hlt rfl
      go_wp2
      go_roundw
      case rel=>exact ⟨k+1,by omega,by go_num,by have h9:=hF.step (Qs _) hlt (List.getElem?_eq_getElem hlt) (Frs.int hsz); simpa [Wh,Ty.wd] using h9⟩
      case measure=>simp[intOf]; omega
    · go_wp2
      go_ret
      have:k=xs.length:=by omega
      subst this
      exact ⟨_,_,rfl,(hF.done rfl (by unfold maxLen; omega)).mono hF.base (Nat.le_refl _),hF.nw⟩
theorem Qaj (v0 v1:Value)(x:QJ)(w:World)(hr:Rep QZ w [v0,v1] x)(hz:Ty.tot QZ x≤1048576):
    Calls Tryz.prog 189 #[.agg #[v0,v1]] w (Qnh QT w x):=by
  obtain ⟨x0,x1⟩:=x
  obtain ⟨r0,q0⟩:=hr.pr1 rfl
  have r1:=q0
  have ht:Ty.tot QZ (x0,x1)=Ty.tot (.sl 3 .int) x0+(Ty.tot (.sl 3 .int) x1):=rfl
  rw[ht] at hz
  clear ht
  go_enter Tryz.func189,Tryz.ntmps189
  go_wp2_with fail
  refine (QcK _ _ _ (by exact r0.nw (by (repeat (first | with_reducible exact Qs _ | with_reducible assumption | with_reducible apply Nw.alloc | with_reducible apply Nw.drew | with_reducible apply Nw.drewN | (with_reducible refine Qo ?_ ?_; focus (first | (simp; done) | (simp; omega))) | with_reducible refine Qz (by assumption) ?_)))) (by omega)).mono ?_
  rintro e w0 ⟨A0,c0,rfl,hf0,hq0⟩
  have hz0:w.heap.size+3≤w0.heap.size:=by (have h:=hq0.size; simp at h; omega)
  have hB0:Frs (.sl 3 .int) (w.heap.size+3) w0.heap.size w0 [.slice A0 x0.length c0] x0:=by (refine Frs.mono hf0 ?_ ?_; simp; exact Nat.le_refl _)
  have hN0:Nw w w0:=by (repeat (first | with_reducible exact Qs _ | with_reducible assumption | with_reducible apply Nw.alloc | with_reducible apply Nw.drew | with_reducible apply Nw.drewN | (with_reducible refine Qo ?_ ?_; focus (first | (simp; done) | (simp; omega))) | with_reducible refine Qz (by assumption) ?_))
  obtain ⟨hc0,hg0⟩:=hq0.cells
  clear hf0 hq0
  have hs30:w.heap.size < w0.heap.size∧w.heap.size+1 < w0.heap.size∧w.heap.size+2 < w0.heap.size:=by omega
  obtain ⟨ha0,hb0,hd0⟩:=hs30
  go_wp2_with fail
  refine (QcK _ _ _ (by exact r1.nw (by (repeat (first | with_reducible exact Qs _ | with_reducible assumption | with_reducible apply Nw.alloc | with_reducible apply Nw.drew | with_reducible apply Nw.drewN | (with_reducible refine Qo ?_ ?_; focus (first | (simp; done) | (simp; omega))) | with_reducible refine Qz (by assumption) ?_)))) (by omega)).mono ?_
  rintro e w1 ⟨A1,c1,rfl,hf1,hq1⟩
  have hz1:w0.heap.size≤w1.heap.size:=by (have h:=hq1.size; simp at h; omega)
  have hB1:Frs (.sl 3 .int) w0.heap.size w1.heap.size w1 [.slice A1 x1.length c1] x1:=by (refine Frs.mono hf1 ?_ ?_; simp; exact Nat.le_refl _)
  replace hB0:=hB0.kb (w':=w1) (by (repeat (first | with_reducible exact X6 | with_reducible assumption | with_reducible apply Kb.drew | with_reducible apply Kb.drewN | (with_reducible refine Z2 ?_ ?_; focus (first | (simp; done) | (simp; omega))) | (with_reducible refine Yz ?_ ?_; focus (first | (simp; done) | (simp; omega))) | (with_reducible refine VO (by assumption) ?_ ?_; focus (first | (simp; done) | (simp; omega))))))
  have hN1:Nw w w1:=by (repeat (first | with_reducible exact Qs _ | with_reducible assumption | with_reducible apply Nw.alloc | with_reducible apply Nw.drew | with_reducible apply Nw.drewN | (with_reducible refine Qo ?_ ?_; focus (first | (simp; done) | (simp; omega))) | with_reducible refine Qz (by assumption) ?_))
  obtain ⟨hc1,hg1⟩:=hq1.cells
  clear hf1 hq1
  have hl1:w.heap.size+3≤w1.heap.size:=by omega
  have hs31:w.heap.size < w1.heap.size∧w.heap.size+1 < w1.heap.size∧w.heap.size+2 < w1.heap.size:=by omega
  obtain ⟨ha1,hb1,hd1⟩:=hs31
  go_wp2
  refine bodyPost_ret (v:= .agg #[.slice A0 x0.length c0, .slice A1 x1.length c1]) (by simp only[results,Tryz.results189]; go_simp) rfl ⟨_,_,rfl, ?_, ?_⟩
  · refine Frs.mono (B := w.heap.size) (U := w1.heap.size) ?_ (Nat.le_refl _) (by simp <;> omega)
    (refine XG (a:=(.sl 3 .int)) (b:=(.sl 3 .int)) (l:=[.slice A0 x0.length c0]) (r:=[.slice A1 x1.length c1]) (x:=x0) (y:=(x1)) (M:=w0.heap.size) ?_ ?_ (by omega) (by omega); (focus (refine Frs.mono (Frs.kb hB0 (by (repeat (first | with_reducible exact X6 | with_reducible assumption | with_reducible apply Kb.drew | with_reducible apply Kb.drewN | (with_reducible refine Z2 ?_ ?_; focus (first | (simp; done) | (simp; omega))) | (with_reducible refine Yz ?_ ?_; focus (first | (simp; done) | (simp; omega))) | (with_reducible refine VO (by assumption) ?_ ?_; focus (first | (simp; done) | (simp; omega))))))) ?_ ?_; omega; exact Nat.le_refl _)); (refine Frs.mono (Frs.kb hB1 (by (repeat (first | with_reducible exact X6 | with_reducible assumption | with_reducible apply Kb.drew | with_reducible apply Kb.drewN | (with_reducible refine Z2 ?_ ?_; focus (first | (simp; done) | (simp; omega))) | (with_reducible refine Yz ?_ ?_; focus (first | (simp; done) | (simp; omega))) | (with_reducible refine VO (by assumption) ?_ ?_; focus (first | (simp; done) | (simp; omega))))))) ?_ ?_; omega; exact Nat.le_refl _))
  · (repeat (first | with_reducible exact Qs _ | with_reducible assumption | with_reducible apply Nw.alloc | with_reducible apply Nw.drew | with_reducible apply Nw.drewN | (with_reducible refine Qo ?_ ?_; focus (first | (simp; done) | (simp; omega))) | with_reducible refine Qz (by assumption) ?_))
theorem QbU:(Tryz.prog.info? 159).map (fun i=>(i.zero,i.size,i.bytes))=some (some (.agg #[.slice none 0 0, .slice none 0 0]),2,48):=by kernel_rfl
theorem Hy (v:Value)(xs:List (QJ))(w:World)(hr:Rep (.sl 222 QZ) w [v] xs)(hz:Ty.tot (.sl 222 QZ) xs≤1048576):
    Calls Tryz.prog 111 #[v] w (Qns 159 QT w xs):=by
  obtain ⟨A,c,rfl,hl,hc⟩:=hr.slv
  have hm:xs.length≤1048576:=Nat.le_trans (Qa9 (e:=QZ) xs) hz
  have hmk:=Vb (P:=Tryz.prog) 33 159 (.agg #[.slice none 0 0, .slice none 0 0]) 2 48 Tryz.underlying33 QbU xs.length (by omega) (by omega)
  have hst:=Fill.start (e:=QT) w 159 (madeCells (Value.cells (.agg #[.slice none 0 0, .slice none 0 0])) (xs.length*2)) xs.length ((size_madeCells _ _).trans rfl) xs
  go_enter Tryz.func111,Tryz.ntmps111
  go_wp2
  clear hmk
  go_loopw [4] (fun i wr=>∃k:Nat,k≤xs.length∧i= .int .i64 k∧Fill QT 159 w w.heap.size xs.length k wr xs) (fun i _=>xs.length - (intOf i).toNat)
  case atStart=>exact ⟨0,Nat.zero_le _,rfl,hst⟩
  case round=>
    clear hst
    obtain ⟨k,hk,rfl,hF⟩:=hrel
    have hlt1:=hF.lt
    by_cases hlt:k < xs.length
    · obtain ⟨b, o, v0, v1, rfl, hx, c0, c1⟩ := (hr.nw hF.nw).at2 rfl (List.getElem?_eq_getElem hlt)
      have hzk:=Qfh (e:=QZ) (E:=222) hlt
      go_wp2_with (go_at_call 189; refine (Qaj _ _ _ _ (by exact hx) (by omega)).mono ?_; rintro e w1 ⟨u0,u1,rfl,hf,hq1⟩; have ho0:u0.oneCell'=true:=hf.rep.one _ (by simp); have ho1:u1.oneCell'=true:=hf.rep.one _ (by simp); obtain ⟨p0,p1,e0,f0,e1,f1⟩:=hF.cells2 hq1 hlt rfl)
      go_roundw
      case rel=>exact ⟨k+1,by omega,by go_num,hF.step hq1 hlt (List.getElem?_eq_getElem hlt) hf⟩
      case measure=>simp[intOf]; omega
    · go_wp2
      go_ret
      have:k=xs.length:=by omega
      subst this
      exact ⟨_,_,rfl,(hF.done rfl (by unfold maxLen; omega)).mono hF.base (Nat.le_refl _),hF.nw⟩
theorem QjR (v0 v1:Value)(x:Y0)(w:World)(hr:Rep Qdj w [v0,v1] x)(hz:Ty.tot Qdj x≤1048576):
    Calls Tryz.prog 54 #[.agg #[v0,v1]] w (Qnh VK w x):=by
  obtain ⟨x0,x1⟩:=x
  obtain ⟨r0,q0⟩:=hr.pr1 rfl
  have r1:=q0
  obtain ⟨rfl,hi0a,hi0b⟩:=r0.int_
  have ht:Ty.tot Qdj (x0,x1)=0+(Ty.tot (.sl 222 QZ) x1):=rfl
  rw[ht] at hz
  clear ht
  go_enter Tryz.func54,Tryz.ntmps54
  go_wp2_with fail
  refine (Hy _ _ _ (by exact r1.nw (by (repeat (first | with_reducible exact Qs _ | with_reducible assumption | with_reducible apply Nw.alloc | with_reducible apply Nw.drew | with_reducible apply Nw.drewN | (with_reducible refine Qo ?_ ?_; focus (first | (simp; done) | (simp; omega))) | with_reducible refine Qz (by assumption) ?_)))) (by omega)).mono ?_
  rintro e w1 ⟨A1,c1,rfl,hf1,hq1⟩
  have hz1:w.heap.size+3≤w1.heap.size:=by (have h:=hq1.size; simp at h; omega)
  have hB1:Frs (.sl 159 QT) (w.heap.size+3) w1.heap.size w1 [.slice A1 x1.length c1] x1:=by (refine Frs.mono hf1 ?_ ?_; simp; exact Nat.le_refl _)
  have hN1:Nw w w1:=by (repeat (first | with_reducible exact Qs _ | with_reducible assumption | with_reducible apply Nw.alloc | with_reducible apply Nw.drew | with_reducible apply Nw.drewN | (with_reducible refine Qo ?_ ?_; focus (first | (simp; done) | (simp; omega))) | with_reducible refine Qz (by assumption) ?_))
  obtain ⟨hc1,hg1⟩:=hq1.cells
  clear hf1 hq1
  have hs31:w.heap.size < w1.heap.size∧w.heap.size+1 < w1.heap.size∧w.heap.size+2 < w1.heap.size:=by omega
  obtain ⟨ha1,hb1,hd1⟩:=hs31
  go_wp2
  refine bodyPost_ret (v:= .agg #[.int .i64 x0, .slice A1 x1.length c1]) (by simp only[results,Tryz.results54]; go_simp) rfl ⟨_,_,rfl, ?_, ?_⟩
  · refine Frs.mono (B := w.heap.size) (U := w1.heap.size) ?_ (Nat.le_refl _) (by simp <;> omega)
    (refine XG (a:= .int) (b:=(.sl 159 QT)) (l:=[.int .i64 x0]) (r:=[.slice A1 x1.length c1]) (x:=x0) (y:=(x1)) (M:=w.heap.size) ?_ ?_ (by omega) (by omega); (focus (exact Frs.int (x:=x0) ⟨hi0a,hi0b⟩)); (refine Frs.mono (Frs.kb hB1 (by (repeat (first | with_reducible exact X6 | with_reducible assumption | with_reducible apply Kb.drew | with_reducible apply Kb.drewN | (with_reducible refine Z2 ?_ ?_; focus (first | (simp; done) | (simp; omega))) | (with_reducible refine Yz ?_ ?_; focus (first | (simp; done) | (simp; omega))) | (with_reducible refine VO (by assumption) ?_ ?_; focus (first | (simp; done) | (simp; omega))))))) ?_ ?_; omega; exact Nat.le_refl _))
  · (repeat (first | with_reducible exact Qs _ | with_reducible assumption | with_reducible apply Nw.alloc | with_reducible apply Nw.drew | with_reducible apply Nw.drewN | (with_reducible refine Qo ?_ ?_; focus (first | (simp; done) | (simp; omega))) | with_reducible refine Qz (by assumption) ?_))
theorem QfI (v0 v1:Value)(x:Zn)(w:World)(hr:Rep Xk w [v0,v1] x)(hz:Ty.tot Xk x≤1048576):
    Calls Tryz.prog 74 #[.agg #[v0,v1]] w (Qnh Yl w x):=by
  obtain ⟨x0,x1⟩:=x
  obtain ⟨r0,q0⟩:=hr.pr1 rfl
  have r1:=q0
  obtain ⟨rfl,hi0a,hi0b⟩:=r0.int_
  obtain rfl:=r1.bool_
  have ht:Ty.tot Xk (x0,x1)=0+(0):=rfl
  rw[ht] at hz
  clear ht
  go_enter Tryz.func74,Tryz.ntmps74
  skip
  go_wp2
  refine bodyPost_ret (v:= .agg #[.int .i64 x0, .bool x1]) (by simp only[results,Tryz.results74]; go_simp) rfl ⟨_,_,rfl, ?_, ?_⟩
  · refine Frs.mono (B := w.heap.size) (U := w.heap.size) ?_ (Nat.le_refl _) (by simp <;> omega)
    (refine XG (a:= .int) (b:= .bool) (l:=[.int .i64 x0]) (r:=[.bool x1]) (x:=x0) (y:=(x1)) (M:=w.heap.size) ?_ ?_ (by omega) (by omega); (focus (exact Frs.int (x:=x0) ⟨hi0a,hi0b⟩)); (exact Frs.bool (x:=x1)))
  · (repeat (first | with_reducible exact Qs _ | with_reducible assumption | with_reducible apply Nw.alloc | with_reducible apply Nw.drew | with_reducible apply Nw.drewN | (with_reducible refine Qo ?_ ?_; focus (first | (simp; done) | (simp; omega))) | with_reducible refine Qz (by assumption) ?_))
theorem QkK:(Tryz.prog.info? 61).map (fun i=>(i.zero,i.size,i.bytes))=some (some (.agg #[.int .i64 0, .bool false]),2,16):=by kernel_rfl
theorem QeU (v:Value)(xs:List (Zn))(w:World)(hr:Rep (.sl 51 Xk) w [v] xs)(hz:Ty.tot (.sl 51 Xk) xs≤1048576):
    Calls Tryz.prog 56 #[v] w (Qns 61 Yl w xs):=by
  obtain ⟨A,c,rfl,hl,hc⟩:=hr.slv
  have hm:xs.length≤1048576:=Nat.le_trans (Qa9 (e:=Xk) xs) hz
  have hmk:=Vb (P:=Tryz.prog) 37 61 (.agg #[.int .i64 0, .bool false]) 2 16 Tryz.underlying37 QkK xs.length (by omega) (by omega)
  have hst:=Fill.start (e:=Yl) w 61 (madeCells (Value.cells (.agg #[.int .i64 0, .bool false])) (xs.length*2)) xs.length ((size_madeCells _ _).trans rfl) xs
  go_enter Tryz.func56,Tryz.ntmps56
  go_wp2
  clear hmk
  go_loopw [4] (fun i wr=>∃k:Nat,k≤xs.length∧i= .int .i64 k∧Fill Yl 61 w w.heap.size xs.length k wr xs) (fun i _=>xs.length - (intOf i).toNat)
  case atStart=>exact ⟨0,Nat.zero_le _,rfl,hst⟩
  case round=>
    clear hst
    obtain ⟨k,hk,rfl,hF⟩:=hrel
    have hlt1:=hF.lt
    by_cases hlt:k < xs.length
    · obtain ⟨b, o, v0, v1, rfl, hx, c0, c1⟩ := (hr.nw hF.nw).at2 rfl (List.getElem?_eq_getElem hlt)
      have hzk:=Qfh (e:=Xk) (E:=51) hlt
      go_wp2_with (go_at_call 74; refine (QfI _ _ _ _ (by exact hx) (by omega)).mono ?_; rintro e w1 ⟨u0,u1,rfl,hf,hq1⟩; have ho0:u0.oneCell'=true:=hf.rep.one _ (by simp); have ho1:u1.oneCell'=true:=hf.rep.one _ (by simp); obtain ⟨p0,p1,e0,f0,e1,f1⟩:=hF.cells2 hq1 hlt rfl)
      go_roundw
      case rel=>exact ⟨k+1,by omega,by go_num,hF.step hq1 hlt (List.getElem?_eq_getElem hlt) hf⟩
      case measure=>simp[intOf]; omega
    · go_wp2
      go_ret
      have:k=xs.length:=by omega
      subst this
      exact ⟨_,_,rfl,(hF.done rfl (by unfold maxLen; omega)).mono hF.base (Nat.le_refl _),hF.nw⟩
theorem Qki (v0 v1 v2 v3 v4:Value)(x:Q5)(w:World)(hr:Rep UM w [v0,v1,v2,v3,v4] x)(hz:Ty.tot UM x≤1048576):
    Calls Tryz.prog 13 #[.agg #[v0,v1,v2,v3,v4]] w (QpU Y8 w x):=by
  obtain ⟨x0,x1,x2,x3⟩:=x
  obtain ⟨r0,q0⟩:=hr.pr2 rfl
  obtain ⟨r1,q1⟩:=q0.pr1 rfl
  obtain ⟨r2,q2⟩:=q1.pr1 rfl
  have r3:=q2
  obtain ⟨rfl,hs3⟩:=r3.str_
  have hs3:x3.size≤9223372036854775807:=hs3
  have ht:Ty.tot UM (x0,x1,x2,x3)=Ty.tot Qdj x0+(Ty.tot (.sl 153 Zp) x1+(Ty.tot (.sl 51 Xk) x2+(x3.size))):=rfl
  rw[ht] at hz
  clear ht
  go_enter Tryz.func13,Tryz.ntmps13
  go_wp2_with fail
  refine (QjR _ _ _ _ (by exact r0.nw (by (repeat (first | with_reducible exact Qs _ | with_reducible assumption | with_reducible apply Nw.alloc | with_reducible apply Nw.drew | with_reducible apply Nw.drewN | (with_reducible refine Qo ?_ ?_; focus (first | (simp; done) | (simp; omega))) | with_reducible refine Qz (by assumption) ?_)))) (by omega)).mono ?_
  rintro e w0 ⟨u00,u01,rfl,hf0,hq0⟩
  have hz0:w.heap.size+3≤w0.heap.size:=by (have h:=hq0.size; simp at h; omega)
  have hB0:Frs VK (w.heap.size+3) w0.heap.size w0 [u00,u01] x0:=by (refine Frs.mono hf0 ?_ ?_; simp; exact Nat.le_refl _)
  have hN0:Nw w w0:=by (repeat (first | with_reducible exact Qs _ | with_reducible assumption | with_reducible apply Nw.alloc | with_reducible apply Nw.drew | with_reducible apply Nw.drewN | (with_reducible refine Qo ?_ ?_; focus (first | (simp; done) | (simp; omega))) | with_reducible refine Qz (by assumption) ?_))
  obtain ⟨hc0,hg0⟩:=hq0.cells
  have ou00:u00.oneCell'=true:=hf0.rep.one _ (by simp)
  have ou01:u01.oneCell'=true:=hf0.rep.one _ (by simp)
  clear hf0 hq0
  have hs30:w.heap.size < w0.heap.size∧w.heap.size+1 < w0.heap.size∧w.heap.size+2 < w0.heap.size:=by omega
  obtain ⟨ha0,hb0,hd0⟩:=hs30
  go_wp2_with fail
  refine (QdA _ _ _ (by exact r1.nw (by (repeat (first | with_reducible exact Qs _ | with_reducible assumption | with_reducible apply Nw.alloc | with_reducible apply Nw.drew | with_reducible apply Nw.drewN | (with_reducible refine Qo ?_ ?_; focus (first | (simp; done) | (simp; omega))) | with_reducible refine Qz (by assumption) ?_)))) (by omega)).mono ?_
  rintro e w1 ⟨A1,c1,rfl,hf1,hq1⟩
  have hz1:w0.heap.size≤w1.heap.size:=by (have h:=hq1.size; simp at h; omega)
  have hB1:Frs (.sl 145 ZL) w0.heap.size w1.heap.size w1 [.slice A1 x1.length c1] x1:=by (refine Frs.mono hf1 ?_ ?_; simp; exact Nat.le_refl _)
  replace hB0:=hB0.kb (w':=w1) (by (repeat (first | with_reducible exact X6 | with_reducible assumption | with_reducible apply Kb.drew | with_reducible apply Kb.drewN | (with_reducible refine Z2 ?_ ?_; focus (first | (simp; done) | (simp; omega))) | (with_reducible refine Yz ?_ ?_; focus (first | (simp; done) | (simp; omega))) | (with_reducible refine VO (by assumption) ?_ ?_; focus (first | (simp; done) | (simp; omega))))))
  have hN1:Nw w w1:=by (repeat (first | with_reducible exact Qs _ | with_reducible assumption | with_reducible apply Nw.alloc | with_reducible apply Nw.drew | with_reducible apply Nw.drewN | (with_reducible refine Qo ?_ ?_; focus (first | (simp; done) | (simp; omega))) | with_reducible refine Qz (by assumption) ?_))
  obtain ⟨hc1,hg1⟩:=hq1.cells
  clear hf1 hq1
  have hl1:w.heap.size+3≤w1.heap.size:=by omega
  have hs31:w.heap.size < w1.heap.size∧w.heap.size+1 < w1.heap.size∧w.heap.size+2 < w1.heap.size:=by omega
  obtain ⟨ha1,hb1,hd1⟩:=hs31
  go_wp2_with fail
  refine (QeU _ _ _ (by exact r2.nw (by (repeat (first | with_reducible exact Qs _ | with_reducible assumption | with_reducible apply Nw.alloc | with_reducible apply Nw.drew | with_reducible apply Nw.drewN | (with_reducible refine Qo ?_ ?_; focus (first | (simp; done) | (simp; omega))) | with_reducible refine Qz (by assumption) ?_)))) (by omega)).mono ?_
  rintro e w2 ⟨A2,c2,rfl,hf2,hq2⟩
  have hz2:w1.heap.size≤w2.heap.size:=by (have h:=hq2.size; simp at h; omega)
  have hB2:Frs (.sl 61 Yl) w1.heap.size w2.heap.size w2 [.slice A2 x2.length c2] x2:=by (refine Frs.mono hf2 ?_ ?_; simp; exact Nat.le_refl _)
  replace hB0:=hB0.kb (w':=w2) (by (repeat (first | with_reducible exact X6 | with_reducible assumption | with_reducible apply Kb.drew | with_reducible apply Kb.drewN | (with_reducible refine Z2 ?_ ?_; focus (first | (simp; done) | (simp; omega))) | (with_reducible refine Yz ?_ ?_; focus (first | (simp; done) | (simp; omega))) | (with_reducible refine VO (by assumption) ?_ ?_; focus (first | (simp; done) | (simp; omega))))))
  replace hB1:=hB1.kb (w':=w2) (by (repeat (first | with_reducible exact X6 | with_reducible assumption | with_reducible apply Kb.drew | with_reducible apply Kb.drewN | (with_reducible refine Z2 ?_ ?_; focus (first | (simp; done) | (simp; omega))) | (with_reducible refine Yz ?_ ?_; focus (first | (simp; done) | (simp; omega))) | (with_reducible refine VO (by assumption) ?_ ?_; focus (first | (simp; done) | (simp; omega))))))
  have hN2:Nw w w2:=by (repeat (first | with_reducible exact Qs _ | with_reducible assumption | with_reducible apply Nw.alloc | with_reducible apply Nw.drew | with_reducible apply Nw.drewN | (with_reducible refine Qo ?_ ?_; focus (first | (simp; done) | (simp; omega))) | with_reducible refine Qz (by assumption) ?_))
  obtain ⟨hc2,hg2⟩:=hq2.cells
  clear hf2 hq2
  have hl2:w.heap.size+3≤w2.heap.size:=by omega
  have hs32:w.heap.size < w2.heap.size∧w.heap.size+1 < w2.heap.size∧w.heap.size+2 < w2.heap.size:=by omega
  obtain ⟨ha2,hb2,hd2⟩:=hs32
  go_wp2
  refine bodyPost_ret (v:= .agg #[u00,u01, .slice A1 x1.length c1, .slice A2 x2.length c2, .string x3]) (by simp only[results,Tryz.results13]; go_simp) rfl ⟨_,_,_,_,_,rfl, ?_, ?_⟩
  · refine Frs.mono (B := w.heap.size) (U := w2.heap.size) ?_ (Nat.le_refl _) (by simp <;> omega)
    (refine XG (a:=VK) (b:=(.pr (.sl 145 ZL) (.pr (.sl 61 Yl) .str))) (l:=[u00,u01]) (r:=[.slice A1 x1.length c1, .slice A2 x2.length c2, .string x3]) (x:=x0) (y:=(x1,x2,x3)) (M:=w0.heap.size) ?_ ?_ (by omega) (by omega); (focus (refine Frs.mono (Frs.kb hB0 (by (repeat (first | with_reducible exact X6 | with_reducible assumption | with_reducible apply Kb.drew | with_reducible apply Kb.drewN | (with_reducible refine Z2 ?_ ?_; focus (first | (simp; done) | (simp; omega))) | (with_reducible refine Yz ?_ ?_; focus (first | (simp; done) | (simp; omega))) | (with_reducible refine VO (by assumption) ?_ ?_; focus (first | (simp; done) | (simp; omega))))))) ?_ ?_; omega; exact Nat.le_refl _)); ((refine XG (a:=(.sl 145 ZL)) (b:=(.pr (.sl 61 Yl) .str)) (l:=[.slice A1 x1.length c1]) (r:=[.slice A2 x2.length c2, .string x3]) (x:=x1) (y:=(x2,x3)) (M:=w1.heap.size) ?_ ?_ (by omega) (by omega); (focus (refine Frs.mono (Frs.kb hB1 (by (repeat (first | with_reducible exact X6 | with_reducible assumption | with_reducible apply Kb.drew | with_reducible apply Kb.drewN | (with_reducible refine Z2 ?_ ?_; focus (first | (simp; done) | (simp; omega))) | (with_reducible refine Yz ?_ ?_; focus (first | (simp; done) | (simp; omega))) | (with_reducible refine VO (by assumption) ?_ ?_; focus (first | (simp; done) | (simp; omega))))))) ?_ ?_; omega; exact Nat.le_refl _)); ((refine XG (a:=(.sl 61 Yl)) (b:= .str) (l:=[.slice A2 x2.length c2]) (r:=[.string x3]) (x:=x2) (y:=(x3)) (M:=w2.heap.size) ?_ ?_ (by omega) (by omega); (focus (refine Frs.mono (Frs.kb hB2 (by (repeat (first | with_reducible exact X6 | with_reducible assumption | with_reducible apply Kb.drew | with_reducible apply Kb.drewN | (with_reducible refine Z2 ?_ ?_; focus (first | (simp; done) | (simp; omega))) | (with_reducible refine Yz ?_ ?_; focus (first | (simp; done) | (simp; omega))) | (with_reducible refine VO (by assumption) ?_ ?_; focus (first | (simp; done) | (simp; omega))))))) ?_ ?_; omega; exact Nat.le_refl _)); (exact Frs.str (x:=x3) hs3))))))
  · (repeat (first | with_reducible exact Qs _ | with_reducible assumption | with_reducible apply Nw.alloc | with_reducible apply Nw.drew | with_reducible apply Nw.drewN | (with_reducible refine Qo ?_ ?_; focus (first | (simp; done) | (simp; omega))) | with_reducible refine Qz (by assumption) ?_))
theorem QbG (v0 v1 v2:Value)(x:QD)(w:World)(hr:Rep YZ w [v0,v1,v2] x)(hz:Ty.tot YZ x≤1048576):
    Calls Tryz.prog 41 #[.agg #[v0,v1,v2]] w (Qp4 XZ w x):=by
  obtain ⟨x0,x1,x2⟩:=x
  obtain ⟨r0,q0⟩:=hr.pr1 rfl
  obtain ⟨r1,q1⟩:=q0.pr1 rfl
  have r2:=q1
  obtain ⟨rfl,hi0a,hi0b⟩:=r0.int_
  obtain ⟨rfl,hi1a,hi1b⟩:=r1.int_
  obtain rfl:=r2.bool_
  have ht:Ty.tot YZ (x0,x1,x2)=0+(0+(0)):=rfl
  rw[ht] at hz
  clear ht
  go_enter Tryz.func41,Tryz.ntmps41
  skip
  go_wp2
  refine bodyPost_ret (v:= .agg #[.int .i64 x0, .int .i64 x1, .bool x2]) (by simp only[results,Tryz.results41]; go_simp) rfl ⟨_,_,_,rfl, ?_, ?_⟩
  · refine Frs.mono (B := w.heap.size) (U := w.heap.size) ?_ (Nat.le_refl _) (by simp <;> omega)
    (refine XG (a:= .int) (b:=(.pr .int .bool)) (l:=[.int .i64 x0]) (r:=[.int .i64 x1, .bool x2]) (x:=x0) (y:=(x1,x2)) (M:=w.heap.size) ?_ ?_ (by omega) (by omega); (focus (exact Frs.int (x:=x0) ⟨hi0a,hi0b⟩)); ((refine XG (a:= .int) (b:= .bool) (l:=[.int .i64 x1]) (r:=[.bool x2]) (x:=x1) (y:=(x2)) (M:=w.heap.size) ?_ ?_ (by omega) (by omega); (focus (exact Frs.int (x:=x1) ⟨hi1a,hi1b⟩)); (exact Frs.bool (x:=x2)))))
  · (repeat (first | with_reducible exact Qs _ | with_reducible assumption | with_reducible apply Nw.alloc | with_reducible apply Nw.drew | with_reducible apply Nw.drewN | (with_reducible refine Qo ?_ ?_; focus (first | (simp; done) | (simp; omega))) | with_reducible refine Qz (by assumption) ?_))
end Go.Proofs.YtnakmhfjafecpaaGreat
