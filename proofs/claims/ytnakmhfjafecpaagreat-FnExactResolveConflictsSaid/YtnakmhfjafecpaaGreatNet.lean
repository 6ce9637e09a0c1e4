/- What each 'to..' returns: the same data, in new memory. -/
import Derived.Test.YtnakmhfjafecpaaGreatSz
import Derived.StillTailTactics
import Derived.Test.YtnakmhfjafecpaaGreatProg
import Derived.KernelRfl
set_option linter.unusedSimpArgs false
set_option linter.unusedVariables false
set_option linter.unusedSectionVars false
namespace Go.Proofs.YtnakmhfjafecpaaGreat
set_option maxHeartbeats 4000000
set_option maxRecDepth 100000
open Go.RowKit
theorem Qkf {e:Ty}{E:TypeId}{xs:List e.Den}{k:Nat}(h:k < xs.length):Ty.tot e xs[k]≤Ty.tot (.sl E e) xs:=by
  rw[UT]
  have h1:=V5 (Ty.tot e) xs k h
  have h2:=WU (Ty.tot e) xs (k+1)
  omega
theorem QeV {e:Ty}{E:TypeId}(xs:List e.Den):xs.length≤Ty.tot (.sl E e) xs:=by rw[UT]; omega
theorem Qfk (v0 v1:Value)(x:Q4)(w:World)(hr:Rep ZU w [v0,v1] x)(hz:Ty.tot ZU x≤1048576):
    Calls Tryz.prog 112 #[.agg #[v0,v1]] w (QqC Yi w x):=by
  obtain ⟨x0,x1⟩:=x
  obtain ⟨r0,q0⟩:=hr.pr1 rfl
  have r1:=q0
  obtain ⟨rfl,hs0⟩:=r0.str_
  have hs0:x0.size≤9223372036854775807:=hs0
  obtain ⟨rfl,hi1a,hi1b⟩:=r1.int_
  have ht:Ty.tot ZU (x0,x1)=x0.size+(0):=rfl
  rw[ht] at hz
  clear ht
  go_enter Tryz.func112,Tryz.ntmps112
  skip
  go_wp2
  refine bodyPost_ret (v:= .agg #[.string x0, .int .i64 x1]) (by simp only[results,Tryz.results112]; go_simp) rfl ⟨_,_,rfl, ?_, ?_⟩
  · refine Frs.mono (B := w.heap.size) (U := w.heap.size) ?_ (Nat.le_refl _) (by simp <;> omega)
    (refine UC (a:= .str) (b:= .int) (l:=[.string x0]) (r:=[.int .i64 x1]) (x:=x0) (y:=(x1)) (M:=w.heap.size) ?_ ?_ (by omega) (by omega); (focus (exact Frs.str (x:=x0) hs0)); (exact Frs.int (x:=x1) ⟨hi1a,hi1b⟩))
  · (repeat (first | with_reducible exact Q1 _ | with_reducible assumption | with_reducible apply Nw.alloc | with_reducible apply Nw.drew | with_reducible apply Nw.drewN | (with_reducible refine QT ?_ ?_; focus (first | (simp; done) | (simp; omega))) | with_reducible refine Q6 (by assumption) ?_))
theorem Qha:(Tryz.prog.info? 145).map (fun i=>(i.zero,i.size,i.bytes))=some (some (.agg #[.string ByteArray.empty, .int .i64 0]),2,24):=by kernel_rfl
theorem Qds (v:Value)(xs:List (Q4))(w:World)(hr:Rep (.sl 153 ZU) w [v] xs)(hz:Ty.tot (.sl 153 ZU) xs≤1048576):
    Calls Tryz.prog 55 #[v] w (Qpm 145 Yi w xs):=by
  obtain ⟨A,c,rfl,hl,hc⟩:=hr.slv
  have hm:xs.length≤1048576:=Nat.le_trans (QeV (e:=ZU) xs) hz
  have hmk:=Ka (P:=Tryz.prog) 36 145 (.agg #[.string ByteArray.empty, .int .i64 0]) 2 24 Tryz.underlying36 Qha xs.length (by omega) (by omega)
  have hst:=Fill.start (e:=Yi) w 145 (madeCells (Value.cells (.agg #[.string ByteArray.empty, .int .i64 0])) (xs.length*2)) xs.length ((size_madeCells _ _).trans rfl) xs
  go_enter Tryz.func55,Tryz.ntmps55
  go_wp2
  clear hmk
  go_loopw [4] (fun i wr=>∃k:Nat,k≤xs.length∧i= .int .i64 k∧Fill Yi 145 w w.heap.size xs.length k wr xs) (fun i _=>xs.length - (intOf i).toNat)
  case atStart=>exact ⟨0,Nat.zero_le _,rfl,hst⟩
  case round=>
    clear hst
    obtain ⟨k,hk,rfl,hF⟩:=hrel
    have hlt1:=hF.lt
    by_cases hlt:k < xs.length
    · obtain ⟨b, o, v0, v1, rfl, hx, c0, c1⟩ := (hr.nw hF.nw).at2 rfl (List.getElem?_eq_getElem hlt)
      have hzk:=Qkf (e:=ZU) (E:=153) hlt
      go_wp2_with (go_at_call 112; refine (Qfk _ _ _ _ (by exact hx) (by omega)).mono ?_; rintro e w1 ⟨u0,u1,rfl,hf,hq1⟩; have ho0:u0.oneCell'=true:=hf.rep.one _ (by simp); have ho1:u1.oneCell'=true:=hf.rep.one _ (by simp); obtain ⟨p0,p1,e0,f0,e1,f1⟩:=hF.cells2 hq1 hlt rfl)
      go_roundw
      case rel=>exact ⟨k+1,by omega,by go_num,hF.step hq1 hlt (List.getElem?_eq_getElem hlt) hf⟩
      case measure=>simp[intOf]; omega
    · go_wp2
      go_ret
      have:k=xs.length:=by omega
      subst this
      exact ⟨_,_,rfl,(hF.done rfl (by unfold maxLen; omega)).mono hF.base (Nat.le_refl _),hF.nw⟩
theorem QiJ:(Tryz.prog.info? 9).map (fun i=>(i.zero,i.size,i.bytes))=some (some (.string ByteArray.empty),1,16):=by kernel_rfl
theorem Qdq (v:Value)(xs:List (ByteArray))(w:World)(hr:Rep (.sl 9 .str) w [v] xs)(hz:Ty.tot (.sl 9 .str) xs≤1048576):
    Calls Tryz.prog 72 #[v] w (Qpm 9 .str w xs):=by
  obtain ⟨A,c,rfl,hl,hc⟩:=hr.slv
  have hm:xs.length≤1048576:=Nat.le_trans (QeV (e:= .str) xs) hz
  have hmk:=Ka (P:=Tryz.prog) 46 9 (.string ByteArray.empty) 1 16 Tryz.underlying46 QiJ xs.length (by omega) (by omega)
  have hst:=Fill.start (e:= .str) w 9 (madeCells (Value.cells (.string ByteArray.empty)) (xs.length*1)) xs.length ((size_madeCells _ _).trans rfl) xs
  rw[Nat.mul_one] at hst
  go_enter Tryz.func72,Tryz.ntmps72
  go_wp2
  clear hmk
  go_loopw [4] (fun i wr=>∃k:Nat,k≤xs.length∧i= .int .i64 k∧Fill .str 9 w w.heap.size xs.length k wr xs) (fun i _=>xs.length - (intOf i).toNat)
  case atStart=>exact ⟨0,Nat.zero_le _,rfl,hst⟩
  case round=>
    clear hst
    obtain ⟨k,hk,rfl,hF⟩:=hrel
    have hlt1:=hF.lt
    by_cases hlt:k < xs.length
    · obtain ⟨b, o, v0, rfl, hx, c0⟩ := (hr.nw hF.nw).at1 rfl (List.getElem?_eq_getElem hlt)
      obtain ⟨rfl,hsz⟩:=hx.str_
      obtain ⟨p0,e0,f0⟩:=hF.cells1 (Q1 _) hlt rfl
      go_wp2
      go_roundw
      case rel=>exact ⟨k+1,by omega,by go_num,by have h9:=hF.step (Q1 _) hlt (List.getElem?_eq_getElem hlt) (Frs.str hsz); simpa [Wg,Ty.wd] using h9⟩
      case measure=>simp[intOf]; omega
    · go_wp2
      go_ret
      have:k=xs.length:=by omega
      subst this
      exact ⟨_,_,rfl,(hF.done rfl (by unfold maxLen; omega)).mono hF.base (Nat.le_refl _),hF.nw⟩
theorem Qkj (v0 v1 v2 v3:Value)(x:Jv)(w:World)(hr:Rep Jz w [v0,v1,v2,v3] x)(hz:Ty.tot Jz x≤1048576):
    Calls Tryz.prog 129 #[.agg #[v0,v1,v2,v3]] w (QqA QaP w x):=by
  obtain ⟨x0,x1,x2,x3⟩:=x
  obtain ⟨r0,q0⟩:=hr.pr1 rfl
  obtain ⟨r1,q1⟩:=q0.pr1 rfl
  obtain ⟨r2,q2⟩:=q1.pr1 rfl
  have r3:=q2
  obtain ⟨rfl,hi0a,hi0b⟩:=r0.int_
  obtain ⟨rfl,hi1a,hi1b⟩:=r1.int_
  obtain rfl:=r2.bool_
  obtain ⟨rfl,hi3a,hi3b⟩:=r3.int_
  have ht:Ty.tot Jz (x0,x1,x2,x3)=0+(0+(0+(0))):=rfl
  rw[ht] at hz
  clear ht
  go_enter Tryz.func129,Tryz.ntmps129
  skip
  go_wp2
  refine bodyPost_ret (v:= .agg #[.int .i64 x0, .int .i64 x1, .bool x2, .int .i64 x3]) (by simp only[results,Tryz.results129]; go_simp) rfl ⟨_,_,_,_,rfl, ?_, ?_⟩
  · refine Frs.mono (B := w.heap.size) (U := w.heap.size) ?_ (Nat.le_refl _) (by simp <;> omega)
    (refine UC (a:= .int) (b:=(.pr .int (.pr .bool .int))) (l:=[.int .i64 x0]) (r:=[.int .i64 x1, .bool x2, .int .i64 x3]) (x:=x0) (y:=(x1,x2,x3)) (M:=w.heap.size) ?_ ?_ (by omega) (by omega); (focus (exact Frs.int (x:=x0) ⟨hi0a,hi0b⟩)); ((refine UC (a:= .int) (b:=(.pr .bool .int)) (l:=[.int .i64 x1]) (r:=[.bool x2, .int .i64 x3]) (x:=x1) (y:=(x2,x3)) (M:=w.heap.size) ?_ ?_ (by omega) (by omega); (focus (exact Frs.int (x:=x1) ⟨hi1a,hi1b⟩)); ((refine UC (a:= .bool) (b:= .int) (l:=[.bool x2]) (r:=[.int .i64 x3]) (x:=x2) (y:=(x3)) (M:=w.heap.size) ?_ ?_ (by omega) (by omega); (focus (exact Frs.bool (x:=x2))); (exact Frs.int (x:=x3) ⟨hi3a,hi3b⟩))))))
  · (repeat (first | with_reducible exact Q1 _ | with_reducible assumption | with_reducible apply Nw.alloc | with_reducible apply Nw.drew | with_reducible apply Nw.drewN | (with_reducible refine QT ?_ ?_; focus (first | (simp; done) | (simp; omega))) | with_reducible refine Q6 (by assumption) ?_))
theorem Qnc:(Tryz.prog.info? 179).map (fun i=>(i.zero,i.size,i.bytes))=some (some (.agg #[.int .i64 0, .int .i64 0, .bool false, .int .i64 0]),4,32):=by kernel_rfl
theorem QiC (v:Value)(xs:List (Jv))(w:World)(hr:Rep (.sl 181 Jz) w [v] xs)(hz:Ty.tot (.sl 181 Jz) xs≤1048576):
    Calls Tryz.prog 73 #[v] w (Qpm 179 QaP w xs):=by
  obtain ⟨A,c,rfl,hl,hc⟩:=hr.slv
  have hm:xs.length≤1048576:=Nat.le_trans (QeV (e:=Jz) xs) hz
  have hmk:=Ka (P:=Tryz.prog) 57 179 (.agg #[.int .i64 0, .int .i64 0, .bool false, .int .i64 0]) 4 32 Tryz.underlying57 Qnc xs.length (by omega) (by omega)
  have hst:=Fill.start (e:=QaP) w 179 (madeCells (Value.cells (.agg #[.int .i64 0, .int .i64 0, .bool false, .int .i64 0])) (xs.length*4)) xs.length ((size_madeCells _ _).trans rfl) xs
  go_enter Tryz.func73,Tryz.ntmps73
  go_wp2
  clear hmk
  go_loopw [4] (fun i wr=>∃k:Nat,k≤xs.length∧i= .int .i64 k∧Fill QaP 179 w w.heap.size xs.length k wr xs) (fun i _=>xs.length - (intOf i).toNat)
  case atStart=>exact ⟨0,Nat.zero_le _,rfl,hst⟩
  case round=>
    clear hst
    obtain ⟨k,hk,rfl,hF⟩:=hrel
    have hlt1:=hF.lt
    by_cases hlt:k < xs.length
    · obtain ⟨b, o, v0, v1, v2, v3, rfl, hx, c0, c1, c2, c3⟩ := (hr.nw hF.nw).at4 rfl (List.getElem?_eq_getElem hlt)
      have hzk:=Qkf (e:=Jz) (E:=181) hlt
      go_wp2_with (go_at_call 129; refine (Qkj _ _ _ _ _ _ (by exact hx) (by omega)).mono ?_; rintro e w1 ⟨u0,u1,u2,u3,rfl,hf,hq1⟩; have ho0:u0.oneCell'=true:=hf.rep.one _ (by simp); have ho1:u1.oneCell'=true:=hf.rep.one _ (by simp); have ho2:u2.oneCell'=true:=hf.rep.one _ (by simp); have ho3:u3.oneCell'=true:=hf.rep.one _ (by simp); obtain ⟨p0,p1,p2,p3,e0,f0,e1,f1,e2,f2,e3,f3⟩:=hF.cells4 hq1 hlt rfl)
      go_roundw
      case rel=>exact ⟨k+1,by omega,by go_num,hF.step hq1 hlt (List.getElem?_eq_getElem hlt) hf⟩
      case measure=>simp[intOf]; omega
    · go_wp2
      go_ret
      have:k=xs.length:=by omega
      subst this
      exact ⟨_,_,rfl,(hF.done rfl (by unfold maxLen; omega)).mono hF.base (Nat.le_refl _),hF.nw⟩
theorem QaR (v0 v1 v2:Value)(x:Wc)(w:World)(hr:Rep ZF w [v0,v1,v2] x)(hz:Ty.tot ZF x≤1048576):
    Calls Tryz.prog 22 #[.agg #[v0,v1,v2]] w (Qqs YE w x):=by
  obtain ⟨x0,x1,x2⟩:=x
  obtain ⟨r0,q0⟩:=hr.pr1 rfl
  obtain ⟨r1,q1⟩:=q0.pr1 rfl
  have r2:=q1
  have ht:Ty.tot ZF (x0,x1,x2)=Ty.tot (.sl 153 ZU) x0+(Ty.tot (.sl 9 .str) x1+(Ty.tot (.sl 181 Jz) x2)):=rfl
  rw[ht] at hz
  clear ht
  go_enter Tryz.func22,Tryz.ntmps22
  go_wp2_with fail
  refine (Qds _ _ _ (by exact r0.nw (by (repeat (first | with_reducible exact Q1 _ | with_reducible assumption | with_reducible apply Nw.alloc | with_reducible apply Nw.drew | with_reducible apply Nw.drewN | (with_reducible refine QT ?_ ?_; focus (first | (simp; done) | (simp; omega))) | with_reducible refine Q6 (by assumption) ?_)))) (by omega)).mono ?_
  rintro e w0 ⟨A0,c0,rfl,hf0,hq0⟩
  have hz0:w.heap.size+3≤w0.heap.size:=by (have h:=hq0.size; simp at h; omega)
  have hB0:Frs (.sl 145 Yi) (w.heap.size+3) w0.heap.size w0 [.slice A0 x0.length c0] x0:=by (refine Frs.mono hf0 ?_ ?_; simp; exact Nat.le_refl _)
  have hN0:Nw w w0:=by (repeat (first | with_reducible exact Q1 _ | with_reducible assumption | with_reducible apply Nw.alloc | with_reducible apply Nw.drew | with_reducible apply Nw.drewN | (with_reducible refine QT ?_ ?_; focus (first | (simp; done) | (simp; omega))) | with_reducible refine Q6 (by assumption) ?_))
  obtain ⟨hc0,hg0⟩:=hq0.cells
  clear hf0 hq0
  have hs30:w.heap.size < w0.heap.size∧w.heap.size+1 < w0.heap.size∧w.heap.size+2 < w0.heap.size:=by omega
  obtain ⟨ha0,hb0,hd0⟩:=hs30
  go_wp2_with fail
  refine (Qdq _ _ _ (by exact r1.nw (by (repeat (first | with_reducible exact Q1 _ | with_reducible assumption | with_reducible apply Nw.alloc | with_reducible apply Nw.drew | with_reducible apply Nw.drewN | (with_reducible refine QT ?_ ?_; focus (first | (simp; done) | (simp; omega))) | with_reducible refine Q6 (by assumption) ?_)))) (by omega)).mono ?_
  rintro e w1 ⟨A1,c1,rfl,hf1,hq1⟩
  have hz1:w0.heap.size≤w1.heap.size:=by (have h:=hq1.size; simp at h; omega)
  have hB1:Frs (.sl 9 .str) w0.heap.size w1.heap.size w1 [.slice A1 x1.length c1] x1:=by (refine Frs.mono hf1 ?_ ?_; simp; exact Nat.le_refl _)
  replace hB0:=hB0.kb (w':=w1) (by (repeat (first | with_reducible exact K7 | with_reducible assumption | with_reducible apply Kb.drew | with_reducible apply Kb.drewN | (with_reducible refine Wd ?_ ?_; focus (first | (simp; done) | (simp; omega))) | (with_reducible refine Vp ?_ ?_; focus (first | (simp; done) | (simp; omega))) | (with_reducible refine Qas (by assumption) ?_ ?_; focus (first | (simp; done) | (simp; omega))))))
  have hN1:Nw w w1:=by (repeat (first | with_reducible exact Q1 _ | with_reducible assumption | with_reducible apply Nw.alloc | with_reducible apply Nw.drew | with_reducible apply Nw.drewN | (with_reducible refine QT ?_ ?_; focus (first | (simp; done) | (simp; omega))) | with_reducible refine Q6 (by assumption) ?_))
  obtain ⟨hc1,hg1⟩:=hq1.cells
  clear hf1 hq1
  have hl1:w.heap.size+3≤w1.heap.size:=by omega
  have hs31:w.heap.size < w1.heap.size∧w.heap.size+1 < w1.heap.size∧w.heap.size+2 < w1.heap.size:=by omega
  obtain ⟨ha1,hb1,hd1⟩:=hs31
  go_wp2_with fail
  refine (QiC _ _ _ (by exact r2.nw (by (repeat (first | with_reducible exact Q1 _ | with_reducible assumption | with_reducible apply Nw.alloc | with_reducible apply Nw.drew | with_reducible apply Nw.drewN | (with_reducible refine QT ?_ ?_; focus (first | (simp; done) | (simp; omega))) | with_reducible refine Q6 (by assumption) ?_)))) (by omega)).mono ?_
  rintro e w2 ⟨A2,c2,rfl,hf2,hq2⟩
  have hz2:w1.heap.size≤w2.heap.size:=by (have h:=hq2.size; simp at h; omega)
  have hB2:Frs (.sl 179 QaP) w1.heap.size w2.heap.size w2 [.slice A2 x2.length c2] x2:=by (refine Frs.mono hf2 ?_ ?_; simp; exact Nat.le_refl _)
  replace hB0:=hB0.kb (w':=w2) (by (repeat (first | with_reducible exact K7 | with_reducible assumption | with_reducible apply Kb.drew | with_reducible apply Kb.drewN | (with_reducible refine Wd ?_ ?_; focus (first | (simp; done) | (simp; omega))) | (with_reducible refine Vp ?_ ?_; focus (first | (simp; done) | (simp; omega))) | (with_reducible refine Qas (by assumption) ?_ ?_; focus (first | (simp; done) | (simp; omega))))))
  replace hB1:=hB1.kb (w':=w2) (by (repeat (first | with_reducible exact K7 | with_reducible assumption | with_reducible apply Kb.drew | with_reducible apply Kb.drewN | (with_reducible refine Wd ?_ ?_; focus (first | (simp; done) | (simp; omega))) | (with_reducible refine Vp ?_ ?_; focus (first | (simp; done) | (simp; omega))) | (with_reducible refine Qas (by assumption) ?_ ?_; focus (first | (simp; done) | (simp; omega))))))
  have hN2:Nw w w2:=by (repeat (first | with_reducible exact Q1 _ | with_reducible assumption | with_reducible apply Nw.alloc | with_reducible apply Nw.drew | with_reducible apply Nw.drewN | (with_reducible refine QT ?_ ?_; focus (first | (simp; done) | (simp; omega))) | with_reducible refine Q6 (by assumption) ?_))
  obtain ⟨hc2,hg2⟩:=hq2.cells
  clear hf2 hq2
  have hl2:w.heap.size+3≤w2.heap.size:=by omega
  have hs32:w.heap.size < w2.heap.size∧w.heap.size+1 < w2.heap.size∧w.heap.size+2 < w2.heap.size:=by omega
  obtain ⟨ha2,hb2,hd2⟩:=hs32
  go_wp2
  refine bodyPost_ret (v:= .agg #[.slice A0 x0.length c0, .slice A1 x1.length c1, .slice A2 x2.length c2]) (by simp only[results,Tryz.results22]; go_simp) rfl ⟨_,_,_,rfl, ?_, ?_⟩
  · refine Frs.mono (B := w.heap.size) (U := w2.heap.size) ?_ (Nat.le_refl _) (by simp <;> omega)
    (refine UC (a:=(.sl 145 Yi)) (b:=(.pr (.sl 9 .str) (.sl 179 QaP))) (l:=[.slice A0 x0.length c0]) (r:=[.slice A1 x1.length c1, .slice A2 x2.length c2]) (x:=x0) (y:=(x1,x2)) (M:=w0.heap.size) ?_ ?_ (by omega) (by omega); (focus (refine Frs.mono (Frs.kb hB0 (by (repeat (first | with_reducible exact K7 | with_reducible assumption | with_reducible apply Kb.drew | with_reducible apply Kb.drewN | (with_reducible refine Wd ?_ ?_; focus (first | (simp; done) | (simp; omega))) | (with_reducible refine Vp ?_ ?_; focus (first | (simp; done) | (simp; omega))) | (with_reducible refine Qas (by assumption) ?_ ?_; focus (first | (simp; done) | (simp; omega))))))) ?_ ?_; omega; exact Nat.le_refl _)); ((refine UC (a:=(.sl 9 .str)) (b:=(.sl 179 QaP)) (l:=[.slice A1 x1.length c1]) (r:=[.slice A2 x2.length c2]) (x:=x1) (y:=(x2)) (M:=w1.heap.size) ?_ ?_ (by omega) (by omega); (focus (refine Frs.mono (Frs.kb hB1 (by (repeat (first | with_reducible exact K7 | with_reducible assumption | with_reducible apply Kb.drew | with_reducible apply Kb.drewN | (with_reducible refine Wd ?_ ?_; focus (first | (simp; done) | (simp; omega))) | (with_reducible refine Vp ?_ ?_; focus (first | (simp; done) | (simp; omega))) | (with_reducible refine Qas (by assumption) ?_ ?_; focus (first | (simp; done) | (simp; omega))))))) ?_ ?_; omega; exact Nat.le_refl _)); (refine Frs.mono (Frs.kb hB2 (by (repeat (first | with_reducible exact K7 | with_reducible assumption | with_reducible apply Kb.drew | with_reducible apply Kb.drewN | (with_reducible refine Wd ?_ ?_; focus (first | (simp; done) | (simp; omega))) | (with_reducible refine Vp ?_ ?_; focus (first | (simp; done) | (simp; omega))) | (with_reducible refine Qas (by assumption) ?_ ?_; focus (first | (simp; done) | (simp; omega))))))) ?_ ?_; omega; exact Nat.le_refl _))))
  · (repeat (first | with_reducible exact Q1 _ | with_reducible assumption | with_reducible apply Nw.alloc | with_reducible apply Nw.drew | with_reducible apply Nw.drewN | (with_reducible refine QT ?_ ?_; focus (first | (simp; done) | (simp; omega))) | with_reducible refine Q6 (by assumption) ?_))
end Go.Proofs.YtnakmhfjafecpaaGreat
namespace Go.Proofs.YtnakmhfjafecpaaGreat
set_option maxHeartbeats 4000000
set_option maxRecDepth 100000
open Go.RowKit
def U5 (w:World)(e:Ending)(w':World):Prop:=e= .returned (.bool true)∧Nw w w'
theorem QdB (v0 v1 u0 u1:Value)(x:Q4)(w:World)(hr:Rep Yi w [v0,v1] x)(hs:Rep Yi w [u0,u1] x):
    Calls Tryz.prog 119 #[.agg #[v0,v1], .agg #[u0,u1]] w (U5 w):=by
  obtain ⟨x0,x1⟩:=x
  obtain ⟨r0,q0⟩:=hr.pr1 rfl
  have r1:=q0
  obtain ⟨rfl,hs0⟩:=r0.str_
  have hs0:x0.size≤9223372036854775807:=hs0
  obtain ⟨rfl,hi1a,hi1b⟩:=r1.int_
  obtain ⟨s0,p0⟩:=hs.pr1 rfl
  have s1:=p0
  obtain ⟨rfl, -⟩:=s0.str_
  obtain ⟨rfl, -⟩:=s1.int_
  go_enter Tryz.func119,Tryz.ntmps119
  go_wp2
  go_ret
  exact ⟨rfl,by (repeat (first | with_reducible exact Q1 _ | with_reducible assumption | with_reducible apply Nw.alloc | with_reducible apply Nw.drew | with_reducible apply Nw.drewN | (with_reducible refine QT ?_ ?_; focus (first | (simp; done) | (simp; omega))) | with_reducible refine Q6 (by assumption) ?_))⟩
theorem Qc1 (v u:Value)(xs:List (Q4))(w:World)(hr:Rep (.sl 145 Yi) w [v] xs)(hs:Rep (.sl 145 Yi) w [u] xs):
    Calls Tryz.prog 60 #[v,u] w (U5 w):=by
  obtain ⟨A,c,rfl,hl,hc⟩:=hr.slv
  obtain ⟨A',c',rfl,hl',hc'⟩:=hs.slv
  have hm:xs.length≤9223372036854775807:=by unfold maxLen at hc; omega
  go_enter Tryz.func60,Tryz.ntmps60
  go_wp2
  go_loopw [5] (fun i wr=>∃k:Nat,k≤xs.length∧i= .int .i64 k∧Nw w wr) (fun i _=>xs.length - (intOf i).toNat)
  case atStart=>exact ⟨0,Nat.zero_le _,rfl,Q1 _⟩
  case round=>
    obtain ⟨k,hk,rfl,hq⟩:=hrel
    by_cases hlt:k < xs.length
    · obtain ⟨b, o, v0, v1, rfl, hx, c0, c1⟩ := (hr.nw hq).at2 rfl (List.getElem?_eq_getElem hlt)
      obtain ⟨b',o',u0,u1,rfl,hy,d0,d1⟩:=(hs.nw hq).at2 rfl (List.getElem?_eq_getElem hlt)
      have hi0:(0:Int)≤k:=by omega
      have hi1:(k:Int) < xs.length:=by omega
      go_wp2_with fail
      go_still_tail 8,(by kernel_rfl)
      change wpList _ _ _ _ _ wr.drew
      go_wp2_with (go_at_call 119; refine (QdB _ _ _ _ _ _ (by exact hx.drew) (by exact hy.drew)).mono ?_; rintro e w1 ⟨rfl,hq1⟩)
      go_roundw
      case rel=>exact ⟨k+1,by omega,by go_num,hq.drew.trans hq1⟩
      case measure=>simp[intOf]; omega
    · go_wp2
      go_ret
      exact ⟨rfl,hq⟩
theorem QbO (v u:Value)(xs:List (ByteArray))(w:World)(hr:Rep (.sl 9 .str) w [v] xs)(hs:Rep (.sl 9 .str) w [u] xs):
    Calls Tryz.prog 78 #[v,u] w (U5 w):=by
  obtain ⟨A,c,rfl,hl,hc⟩:=hr.slv
  obtain ⟨A',c',rfl,hl',hc'⟩:=hs.slv
  have hm:xs.length≤9223372036854775807:=by unfold maxLen at hc; omega
  go_enter Tryz.func78,Tryz.ntmps78
  go_wp2
  go_loopw [5] (fun i wr=>∃k:Nat,k≤xs.length∧i= .int .i64 k∧Nw w wr) (fun i _=>xs.length - (intOf i).toNat)
  case atStart=>exact ⟨0,Nat.zero_le _,rfl,Q1 _⟩
  case round=>
    obtain ⟨k,hk,rfl,hq⟩:=hrel
    by_cases hlt:k < xs.length
    · obtain ⟨b, o, v0, rfl, hx, c0⟩ := (hr.nw hq).at1 rfl (List.getElem?_eq_getElem hlt)
      obtain ⟨b',o',u0,rfl,hy,d0⟩:=(hs.nw hq).at1 rfl (List.getElem?_eq_getElem hlt)
      obtain ⟨rfl, -⟩:=hx.str_
      obtain ⟨rfl, -⟩:=hy.str_
      have hi0:(0:Int)≤k:=by omega
      have hi1:(k:Int) < xs.length:=by omega
      go_wp2_with fail
      go_quiet (fail)
      go_wp2
      go_roundw
      case rel=>exact ⟨k+1,by omega,by go_num,hq.drewN _⟩
      case measure=>simp[intOf]; omega
    · go_wp2
      go_ret
      exact ⟨rfl,hq⟩
theorem Qht (v0 v1 v2 v3 u0 u1 u2 u3:Value)(x:Jv)(w:World)(hr:Rep QaP w [v0,v1,v2,v3] x)(hs:Rep QaP w [u0,u1,u2,u3] x):
    Calls Tryz.prog 147 #[.agg #[v0,v1,v2,v3], .agg #[u0,u1,u2,u3]] w (U5 w):=by
  obtain ⟨x0,x1,x2,x3⟩:=x
  obtain ⟨r0,q0⟩:=hr.pr1 rfl
  obtain ⟨r1,q1⟩:=q0.pr1 rfl
  obtain ⟨r2,q2⟩:=q1.pr1 rfl
  have r3:=q2
  obtain ⟨rfl,hi0a,hi0b⟩:=r0.int_
  obtain ⟨rfl,hi1a,hi1b⟩:=r1.int_
  obtain rfl:=r2.bool_
  obtain ⟨rfl,hi3a,hi3b⟩:=r3.int_
  obtain ⟨s0,p0⟩:=hs.pr1 rfl
  obtain ⟨s1,p1⟩:=p0.pr1 rfl
  obtain ⟨s2,p2⟩:=p1.pr1 rfl
  have s3:=p2
  obtain ⟨rfl, -⟩:=s0.int_
  obtain ⟨rfl, -⟩:=s1.int_
  obtain rfl:=s2.bool_
  obtain ⟨rfl, -⟩:=s3.int_
  go_enter Tryz.func147,Tryz.ntmps147
  go_wp2
  go_ret
  exact ⟨rfl,by (repeat (first | with_reducible exact Q1 _ | with_reducible assumption | with_reducible apply Nw.alloc | with_reducible apply Nw.drew | with_reducible apply Nw.drewN | (with_reducible refine QT ?_ ?_; focus (first | (simp; done) | (simp; omega))) | with_reducible refine Q6 (by assumption) ?_))⟩
theorem QgF (v u:Value)(xs:List (Jv))(w:World)(hr:Rep (.sl 179 QaP) w [v] xs)(hs:Rep (.sl 179 QaP) w [u] xs):
    Calls Tryz.prog 79 #[v,u] w (U5 w):=by
  obtain ⟨A,c,rfl,hl,hc⟩:=hr.slv
  obtain ⟨A',c',rfl,hl',hc'⟩:=hs.slv
  have hm:xs.length≤9223372036854775807:=by unfold maxLen at hc; omega
  go_enter Tryz.func79,Tryz.ntmps79
  go_wp2
  go_loopw [5] (fun i wr=>∃k:Nat,k≤xs.length∧i= .int .i64 k∧Nw w wr) (fun i _=>xs.length - (intOf i).toNat)
  case atStart=>exact ⟨0,Nat.zero_le _,rfl,Q1 _⟩
  case round=>
    obtain ⟨k,hk,rfl,hq⟩:=hrel
    by_cases hlt:k < xs.length
    · obtain ⟨b, o, v0, v1, v2, v3, rfl, hx, c0, c1, c2, c3⟩ := (hr.nw hq).at4 rfl (List.getElem?_eq_getElem hlt)
      obtain ⟨b',o',u0,u1,u2,u3,rfl,hy,d0,d1,d2,d3⟩:=(hs.nw hq).at4 rfl (List.getElem?_eq_getElem hlt)
      have hi0:(0:Int)≤k:=by omega
      have hi1:(k:Int) < xs.length:=by omega
      go_wp2_with fail
      go_still_tail 8,(by kernel_rfl)
      change wpList _ _ _ _ _ wr.drew
      go_wp2_with (go_at_call 147; refine (Qht _ _ _ _ _ _ _ _ _ _ (by exact hx.drew) (by exact hy.drew)).mono ?_; rintro e w1 ⟨rfl,hq1⟩)
      go_roundw
      case rel=>exact ⟨k+1,by omega,by go_num,hq.drew.trans hq1⟩
      case measure=>simp[intOf]; omega
    · go_wp2
      go_ret
      exact ⟨rfl,hq⟩
theorem H5 (v0 v1 v2 u0 u1 u2:Value)(x:Wc)(w:World)(hr:Rep YE w [v0,v1,v2] x)(hs:Rep YE w [u0,u1,u2] x):
    Calls Tryz.prog 25 #[.agg #[v0,v1,v2], .agg #[u0,u1,u2]] w (U5 w):=by
  obtain ⟨x0,x1,x2⟩:=x
  obtain ⟨r0,q0⟩:=hr.pr1 rfl
  obtain ⟨r1,q1⟩:=q0.pr1 rfl
  have r2:=q1
  obtain ⟨s0,p0⟩:=hs.pr1 rfl
  obtain ⟨s1,p1⟩:=p0.pr1 rfl
  have s2:=p1
  go_enter Tryz.func25,Tryz.ntmps25
  go_wp2_with (first | (go_at_call 60; refine (Qc1 _ _ _ _ (by first | exact r0.nw (by (repeat (first | with_reducible exact Q1 _ | with_reducible assumption | with_reducible apply Nw.alloc | with_reducible apply Nw.drew | with_reducible apply Nw.drewN | (with_reducible refine QT ?_ ?_; focus (first | (simp; done) | (simp; omega))) | with_reducible refine Q6 (by assumption) ?_)))) (by first | exact s0.nw (by (repeat (first | with_reducible exact Q1 _ | with_reducible assumption | with_reducible apply Nw.alloc | with_reducible apply Nw.drew | with_reducible apply Nw.drewN | (with_reducible refine QT ?_ ?_; focus (first | (simp; done) | (simp; omega))) | with_reducible refine Q6 (by assumption) ?_))))).mono ?_; rintro e w1 ⟨rfl,hq1⟩; obtain ⟨hc1,hf1⟩:=hq1.cells; have hz1:w.heap.size < w1.heap.size∧w.heap.size+1 < w1.heap.size:=(by (have hz2:=hq1.size; (try simp at hz2); omega)); obtain ⟨hz1,hz3⟩:=hz1; have hq1:Nw w w1:=(by (repeat (first | with_reducible exact Q1 _ | with_reducible assumption | with_reducible apply Nw.alloc | with_reducible apply Nw.drew | with_reducible apply Nw.drewN | (with_reducible refine QT ?_ ?_; focus (first | (simp; done) | (simp; omega))) | with_reducible refine Q6 (by assumption) ?_)))) | (go_at_call 78; refine (QbO _ _ _ _ (by first | exact r1.nw (by (repeat (first | with_reducible exact Q1 _ | with_reducible assumption | with_reducible apply Nw.alloc | with_reducible apply Nw.drew | with_reducible apply Nw.drewN | (with_reducible refine QT ?_ ?_; focus (first | (simp; done) | (simp; omega))) | with_reducible refine Q6 (by assumption) ?_)))) (by first | exact s1.nw (by (repeat (first | with_reducible exact Q1 _ | with_reducible assumption | with_reducible apply Nw.alloc | with_reducible apply Nw.drew | with_reducible apply Nw.drewN | (with_reducible refine QT ?_ ?_; focus (first | (simp; done) | (simp; omega))) | with_reducible refine Q6 (by assumption) ?_))))).mono ?_; rintro e w1 ⟨rfl,hq1⟩; obtain ⟨hc1,hf1⟩:=hq1.cells; have hz1:w.heap.size < w1.heap.size∧w.heap.size+1 < w1.heap.size:=(by (have hz2:=hq1.size; (try simp at hz2); omega)); obtain ⟨hz1,hz3⟩:=hz1; have hq1:Nw w w1:=(by (repeat (first | with_reducible exact Q1 _ | with_reducible assumption | with_reducible apply Nw.alloc | with_reducible apply Nw.drew | with_reducible apply Nw.drewN | (with_reducible refine QT ?_ ?_; focus (first | (simp; done) | (simp; omega))) | with_reducible refine Q6 (by assumption) ?_)))) | (go_at_call 79; refine (QgF _ _ _ _ (by first | exact r2.nw (by (repeat (first | with_reducible exact Q1 _ | with_reducible assumption | with_reducible apply Nw.alloc | with_reducible apply Nw.drew | with_reducible apply Nw.drewN | (with_reducible refine QT ?_ ?_; focus (first | (simp; done) | (simp; omega))) | with_reducible refine Q6 (by assumption) ?_)))) (by first | exact s2.nw (by (repeat (first | with_reducible exact Q1 _ | with_reducible assumption | with_reducible apply Nw.alloc | with_reducible apply Nw.drew | with_reducible apply Nw.drewN | (with_reducible refine QT ?_ ?_; focus (first | (simp; done) | (simp; omega))) | with_reducible refine Q6 (by assumption) ?_))))).mono ?_; rintro e w1 ⟨rfl,hq1⟩; obtain ⟨hc1,hf1⟩:=hq1.cells; have hz1:w.heap.size < w1.heap.size∧w.heap.size+1 < w1.heap.size:=(by (have hz2:=hq1.size; (try simp at hz2); omega)); obtain ⟨hz1,hz3⟩:=hz1; have hq1:Nw w w1:=(by (repeat (first | with_reducible exact Q1 _ | with_reducible assumption | with_reducible apply Nw.alloc | with_reducible apply Nw.drew | with_reducible apply Nw.drewN | (with_reducible refine QT ?_ ?_; focus (first | (simp; done) | (simp; omega))) | with_reducible refine Q6 (by assumption) ?_)))))
  go_ret
  exact ⟨rfl,by (repeat (first | with_reducible exact Q1 _ | with_reducible assumption | with_reducible apply Nw.alloc | with_reducible apply Nw.drew | with_reducible apply Nw.drewN | (with_reducible refine QT ?_ ?_; focus (first | (simp; done) | (simp; omega))) | with_reducible refine Q6 (by assumption) ?_))⟩
end Go.Proofs.YtnakmhfjafecpaaGreat
namespace Go.Proofs.YtnakmhfjafecpaaGreat
set_option maxHeartbeats 4000000
set_option maxRecDepth 100000
open Go.RowKit
theorem Ji (p:Q4→Prop)(xs:List (Q4))(v:Value)(F:Nat)(caps:Array Value)(w:World)(hr:Rep (.sl 145 Yi) w [v] xs)(hcf:Qt Tryz.prog F)
    (hF:∀(i:Nat) (x:Q4) (W:World) (v0 v1:Value),xs[i]? =some x→Nw w W→Rep Yi W [v0,v1] x→Calls Tryz.prog F (#[.agg #[v0,v1]]++caps) W (RetB (p x) W)):
    Calls Tryz.prog 272 #[v, .func (.func F) #[] caps] w (QoP p xs w):=by
  obtain ⟨A,c,rfl,hl,hc⟩:=hr.slv
  have hm:xs.length≤9223372036854775807:=by unfold maxLen at hc; omega
  have HF:=hid hF
  clear hF
  go_enter Tryz.func272,Tryz.ntmps272
  go_wp2
  go_loopw [8] (fun i wr=>∃k:Nat,k≤xs.length∧i= .int .i64 k∧(∀j x,j < k→xs[j]? =some x→¬p x)∧Nw w wr) (fun i _=>xs.length - (intOf i).toNat)
  case atStart=>exact ⟨0,Nat.zero_le _,rfl,fun j x h=>absurd h (by omega),Q1 _⟩
  case round=>
    obtain ⟨k,hk,rfl,hno,hq⟩:=hrel
    have HN:=hid hno
    clear hno
    by_cases hlt:k < xs.length
    · obtain ⟨b, o, v0, v1, rfl, hx, c0, c1⟩ := (hr.nw hq).at2 rfl (List.getElem?_eq_getElem hlt)
      have hcf:=hcf
      unfold Qt at hcf
      have hcall:=HF.out k _ wr v0 v1 (List.getElem?_eq_getElem hlt) hq hx
      have HC:=hid hcall
      clear hcall
      go_wp2_with fail
      refine Calls.mono HC.out ?_
      rintro e w1 ⟨bb,rfl,hb,hq1⟩
      cases bb with
      | true=>
        have HP:=hid (hb.1 rfl)
        clear hb
        go_wp2
        go_ret
        exact ⟨_,rfl, .inr ⟨k,rfl,hlt,fun y hy=>by rw[List.getElem?_eq_getElem hlt] at hy; cases hy; exact HP.out,HN.out⟩,hq.trans hq1⟩
      | false=>
        have HP:=hid (fun hp=>absurd (hb.2 hp) (by simp):¬p xs[k])
        clear hb
        go_wp2
        go_roundw
        case rel=>exact ⟨k+1,by omega,by go_num,fun j y hj hy=>by
          by_cases e1:j=k
          · subst e1
            rw[List.getElem?_eq_getElem hlt] at hy
            cases hy
            exact HP.out
          · exact HN.out j y (by omega) hy,hq.trans hq1⟩
        case measure=>simp[intOf]; omega
    · go_wp2
      go_ret
      refine ⟨_,rfl, .inl ⟨rfl,fun x hx=> ?_⟩,hq⟩
      obtain ⟨j,hj,hjx⟩:=List.mem_iff_getElem.1 hx
      exact HN.out j x (by omega) (by rw[List.getElem?_eq_getElem hj,hjx])
theorem U8 (p:Q4→Prop)(xs:List (Q4))(v:Value)(F:Nat)(caps:Array Value)(w:World)(hr:Rep (.sl 145 Yi) w [v] xs)(hcf:Qt Tryz.prog F)
    (hF:∀(i:Nat) (x:Q4) (W:World) (v0 v1:Value),xs[i]? =some x→Nw w W→Rep Yi W [v0,v1] x→Calls Tryz.prog F (#[.agg #[v0,v1]]++caps) W (RetB (p x) W)):
    Calls Tryz.prog 222 #[v, .func (.func F) #[] caps] w (RetB (∃x∈xs,p x) w):=by
  have hcall:=Ji p xs v F caps w hr hcf hF
  obtain ⟨A,c,rfl,hl,hc⟩:=hr.slv
  have hm:xs.length≤9223372036854775807:=by unfold maxLen at hc; omega
  have HC:=hid hcall
  clear hcall hF
  go_enter Tryz.func222,Tryz.ntmps222
  go_wp2_with fail
  refine Calls.mono HC.out ?_
  rintro e w1 ⟨r,rfl,hi,hq1⟩
  have hrr:=hi.range hm
  have HI:=hid hi
  clear hi
  go_wp2
  go_ret
  exact RetB.of (by rw[← HI.out.any]; simp) hq1
end Go.Proofs.YtnakmhfjafecpaaGreat
namespace Go.Proofs.YtnakmhfjafecpaaGreat
set_option maxHeartbeats 4000000
set_option maxRecDepth 100000
open Go.RowKit
theorem QmR {s t:ByteArray}(h:(s.toList==t.toList)=true):s=t:=by
  have h:s.toList=t.toList:=by simpa using h
  rw[ByteArray.toList_eq,ByteArray.toList_eq] at h
  cases s; cases t
  exact congrArg _ (Array.toList_inj.1 h)
theorem QoJ {s t:ByteArray}(h:(s.toList==t.toList)=false):s≠t:=by
  rintro rfl
  simp at h
theorem Qmq {s t:ByteArray}(h:s=t):(s.toList==t.toList)=true:=by subst h; simp
theorem Ql0 {s t:ByteArray}(h:s≠t):(s.toList==t.toList)=false:=by
  cases e:(s.toList==t.toList) with
  | false=>rfl
  | true=>exact absurd (QmR e) h
def Xy (k c:Nat):Prop:=(97≤c∧c≤122)∨(k≠0∧48≤c∧c≤57)
def ZZ (s:ByteArray):Prop:=(∀k (h:k < s.size),Xy k s[k].toNat)∧1≤s.size∧s.size≤6
def Qmh (c:Nat):Prop:=c=48∨c=49∨c=45
def QpC (s:ByteArray):Prop:=∀k (h:k < s.size),Qmh s[k].toNat
theorem JX (n lo hi:Int)(w:World):Calls Tryz.prog 154 #[.int .i64 n, .int .i64 lo, .int .i64 hi] w (RetB (lo≤n∧n≤hi) w):=by
  by_cases h1:lo≤n
  · by_cases h2 : n ≤ hi
    all_goals
      go_enter Tryz.func154,Tryz.ntmps154
      go_wp2
      go_ret
      exact RetB.of (by simp; omega) (Q1 _)
  · go_enter Tryz.func154, Tryz.ntmps154
    go_wp2
    go_ret
    exact RetB.of (by simp; omega) (Q1 _)
theorem QcW (n lo hi:Int)(w:World):Calls Tryz.prog 149 #[.int .i64 n, .int .i64 lo, .int .i64 hi] w (RetB (lo≤n∧n≤hi) w):=by
  by_cases h1:lo≤n
  · by_cases h2 : n ≤ hi
    all_goals
      go_enter Tryz.func149,Tryz.ntmps149
      go_wp2
      go_ret
      exact RetB.of (by simp; omega) (Q1 _)
  · go_enter Tryz.func149, Tryz.ntmps149
    go_wp2
    go_ret
    exact RetB.of (by simp; omega) (Q1 _)
theorem QdS {s:ByteArray}{k:Nat}(h:k < s.size)(hc:¬Xy k s[k].toNat):¬ZZ s:=fun hn=>hc (hn.1 k h)
theorem Jt {s:ByteArray}{k:Nat}(h:k < s.size)(hy:∀j (h:j < s.size),j < k→Xy j s[j].toNat)(hc:Xy k s[k].toNat):∀j (h:j < s.size),j < k+1→Xy j s[j].toNat:=by
  intro j hj hjk
  by_cases e:j=k
  · subst e; exact hc
  · exact hy j hj (by omega)
theorem Qb9 (s:ByteArray)(w:World)(hs:s.size≤maxLen):Calls Tryz.prog 200 #[.string s] w (RetB (ZZ s) w):=by
  have hm:s.size≤9223372036854775807:=hs
  go_enter Tryz.func200,Tryz.ntmps200
  go_wp2
  go_loop [3] (fun i=>∃k:Nat,k≤s.size∧i= .int .i64 k∧∀j (h:j < s.size),j < k→Xy j s[j].toNat) (fun i=>s.size - (intOf i).toNat)
  case atStart=>exact ⟨0,Nat.zero_le _,rfl,fun j h h'=>absurd h' (by omega)⟩
  case round=>
    obtain ⟨k,hk,rfl,hyes⟩:=hrel
    have HY:=hid hyes
    clear hyes
    by_cases hlt:k < s.size
    · rcases (by omega : s[k].toNat < 48 ∨ (48 ≤ s[k].toNat ∧ s[k].toNat ≤ 57) ∨ (58 ≤ s[k].toNat ∧ s[k].toNat ≤ 96) ∨ (97 ≤ s[k].toNat ∧ s[k].toNat ≤ 122) ∨ 123 ≤ s[k].toNat) with h1 | ⟨h1, h2⟩ | ⟨h1, h2⟩ | ⟨h1, h2⟩ | h1
      all_goals first | have d0:decide ((97:Int)≤(s[k].toNat:Int))=true:=decide_eq_true (by omega) | have d0:decide ((97:Int)≤(s[k].toNat:Int))=false:=decide_eq_false (by omega)
      all_goals first | have d1:decide ((s[k].toNat:Int)≤122)=true:=decide_eq_true (by omega) | have d1:decide ((s[k].toNat:Int)≤122)=false:=decide_eq_false (by omega)
      all_goals first | have d2:decide ((48:Int)≤(s[k].toNat:Int))=true:=decide_eq_true (by omega) | have d2:decide ((48:Int)≤(s[k].toNat:Int))=false:=decide_eq_false (by omega)
      all_goals first | have d3:decide ((s[k].toNat:Int)≤57)=true:=decide_eq_true (by omega) | have d3:decide ((s[k].toNat:Int)≤57)=false:=decide_eq_false (by omega)
      all_goals first | have d4:decide ((s[k].toNat:Int) < 48)=true:=decide_eq_true (by omega) | have d4:decide ((s[k].toNat:Int) < 48)=false:=decide_eq_false (by omega)
      all_goals first | have d5:decide ((57:Int) < (s[k].toNat:Int))=true:=decide_eq_true (by omega) | have d5:decide ((57:Int) < (s[k].toNat:Int))=false:=decide_eq_false (by omega)
      all_goals rcases Nat.eq_zero_or_pos k with rfl | hk0
      all_goals try have hk1:((k:Int)==0)=false:=by simp; omega
      all_goals go_wp2
      all_goals first
        | (go_ret
           exact RetB.no (QdS hlt (by unfold Xy; omega)) (Q1 _))
        | (go_round
           case rel=>exact ⟨_+1,by omega,by go_num,Jt hlt HY.out (by unfold Xy; omega)⟩
           case measure=>simp[intOf]; omega)
    · have : k = s.size := by omega
      subst this
      go_wp2_with (go_at_call 149; refine (QcW _ _ _ _).mono ?_; rintro e w1 ⟨b,rfl,hb,hq1⟩)
      go_ret
      refine RetB.of (hb.trans ⟨fun h=>⟨fun j hj=>HY.out j hj hj,by omega,by omega⟩,fun h=>by have:=h.2; omega⟩) hq1
theorem Qc2 (s:ByteArray)(w:World)(hs:s.size≤maxLen):Calls Tryz.prog 221 #[.string s] w (RetB (ZZ s) w):=by
  have hm:s.size≤9223372036854775807:=hs
  go_enter Tryz.func221,Tryz.ntmps221
  go_wp2
  go_loopw [3] (fun i wr=>∃k:Nat,k≤s.size∧i= .int .i64 k∧(∀j (h:j < s.size),j < k→Xy j s[j].toNat)∧Nw w wr) (fun i _=>s.size - (intOf i).toNat)
  case atStart=>exact ⟨0,Nat.zero_le _,rfl,fun j h h'=>absurd h' (by omega),Q1 _⟩
  case round=>
    obtain ⟨k,hk,rfl,hyes,hq⟩:=hrel
    have HY:=hid hyes
    clear hyes
    by_cases hlt:k < s.size
    · have hi0 : (0 : Int) ≤ k := by omega
      have hi1:(k:Int) < s.size:=by omega
      rcases (by omega:s[k].toNat < 48∨(48≤s[k].toNat∧s[k].toNat≤57)∨(58≤s[k].toNat∧s[k].toNat≤96)∨(97≤s[k].toNat∧s[k].toNat≤122)∨123≤s[k].toNat) with h1 | ⟨h1,h2⟩ | ⟨h1,h2⟩ | ⟨h1,h2⟩ | h1
      all_goals first | have d0:decide ((97:Int)≤(s[k].toNat:Int))=true:=decide_eq_true (by omega) | have d0:decide ((97:Int)≤(s[k].toNat:Int))=false:=decide_eq_false (by omega)
      all_goals first | have d1:decide ((s[k].toNat:Int)≤122)=true:=decide_eq_true (by omega) | have d1:decide ((s[k].toNat:Int)≤122)=false:=decide_eq_false (by omega)
      all_goals first | have d2:decide ((48:Int)≤(s[k].toNat:Int))=true:=decide_eq_true (by omega) | have d2:decide ((48:Int)≤(s[k].toNat:Int))=false:=decide_eq_false (by omega)
      all_goals first | have d3:decide ((s[k].toNat:Int)≤57)=true:=decide_eq_true (by omega) | have d3:decide ((s[k].toNat:Int)≤57)=false:=decide_eq_false (by omega)
      all_goals first | have d4:decide ((s[k].toNat:Int) < 48)=true:=decide_eq_true (by omega) | have d4:decide ((s[k].toNat:Int) < 48)=false:=decide_eq_false (by omega)
      all_goals first | have d5:decide ((57:Int) < (s[k].toNat:Int))=true:=decide_eq_true (by omega) | have d5:decide ((57:Int) < (s[k].toNat:Int))=false:=decide_eq_false (by omega)
      all_goals rcases Nat.eq_zero_or_pos k with rfl | hk0
      all_goals try have hk1:((k:Int)==0)=false:=by simp; omega
      all_goals go_wp2_with fail
      all_goals go_quiet (fail)
      all_goals go_wp2
      all_goals first
        | (go_ret
           exact RetB.no (QdS hlt (by unfold Xy; omega)) (hq.drewN _))
        | (go_roundw
           case rel=>exact ⟨_+1,by omega,by go_num,Jt hlt HY.out (by unfold Xy; omega),hq.drewN _⟩
           case measure=>simp[intOf]; omega)
    · have : k = s.size := by omega
      subst this
      go_wp2_with (go_at_call 154; refine (JX _ _ _ _).mono ?_; rintro e w1 ⟨b,rfl,hb,hq1⟩)
      go_ret
      refine RetB.of (hb.trans ⟨fun h=>⟨fun j hj=>HY.out j hj hj,by omega,by omega⟩,fun h=>by have:=h.2; omega⟩) (hq.trans hq1)
end Go.Proofs.YtnakmhfjafecpaaGreat
namespace Go.Proofs.YtnakmhfjafecpaaGreat
set_option maxHeartbeats 4000000
set_option maxRecDepth 100000
open Go.RowKit
def SigOkAt (xs:List Q4)(k:Nat):Prop:=∀x,xs[k]? =some x→ZZ x.1∧(1≤x.2∧x.2≤3)∧∀j y,j < k→xs[j]? =some y→y.1≠x.1
def XL (xs:List Q4):Prop:=(∀k,k < xs.length→SigOkAt xs k)∧1≤xs.length∧xs.length≤8
theorem SigOkAt.step {xs:List Q4}{k:Nat}(h:∀j,j < k→SigOkAt xs j)(hk:SigOkAt xs k):∀j,j < k+1→SigOkAt xs j:=by
  intro j hj
  by_cases e:j=k
  · subst e; exact hk
  · exact h j (by omega)
theorem Qdu (v:Value)(xs:List Q4)(w:World)(hr:Rep (.sl 145 Yi) w [v] xs):Calls Tryz.prog 148 #[v] w (RetB (XL xs) w):=by
  obtain ⟨A,c,rfl,hl,hc⟩:=hr.slv
  have hm:xs.length≤9223372036854775807:=by unfold maxLen at hc; omega
  go_enter Tryz.func148,Tryz.ntmps148
  go_wp2
  go_loopw [9] (fun i wr=>∃k:Nat,k≤xs.length∧i= .int .i64 k∧(∀j,j < k→SigOkAt xs j)∧Nw w wr) (fun i _=>xs.length - (intOf i).toNat)
  case atStart=>exact ⟨0,Nat.zero_le _,rfl,fun j h=>absurd h (by omega),Q1 _⟩
  case round=>
    obtain ⟨wo,rfl⟩:∃wo:World,wo=wr:=⟨_,rfl⟩
    obtain ⟨k,hk,rfl,hyes,hq⟩:=hrel
    have HY:=hid hyes
    clear hyes
    by_cases hlt:k < xs.length
    · obtain ⟨b, o, v0, v1, rfl, hx, c0, c1⟩ := (hr.nw hq).at2 rfl (List.getElem?_eq_getElem hlt)
      have HX:=hid (List.getElem?_eq_getElem hlt)
      generalize hxk:xs[k]=x at*
      clear hxk
      obtain ⟨s,n⟩:=x
      obtain ⟨r0,r1⟩:=hx.open2 rfl
      obtain ⟨rfl,hs⟩:=r0.str_
      obtain ⟨rfl, -⟩:=r1.int_
      have Hs:=hid hs
      clear hx r0 r1 hs
      go_wp2_with fail
      refine (Qb9 s _ Hs.out).mono ?_
      rintro e w1 ⟨b1,rfl,hb1,hq1⟩
      obtain ⟨hc1,hf1⟩:=hq1.cells
      have hz1:wo.heap.size < w1.heap.size:=by (have hz2:=hq1.size; simp at hz2; omega)
      cases b1 with
      | false=>
        have HB1:=hid (RetB.not hb1)
        clear hb1
        go_wp2
        go_ret
        exact RetB.no (fun h=>HB1.out (h.1 k hlt _ HX.out).1) (by (repeat (first | with_reducible exact Q1 _ | with_reducible assumption | with_reducible apply Nw.alloc | with_reducible apply Nw.drew | with_reducible apply Nw.drewN | (with_reducible refine QT ?_ ?_; focus (first | (simp; done) | (simp; omega))) | with_reducible refine Q6 (by assumption) ?_)))
      | true=>
        have HB1:=hid (hb1.1 rfl)
        clear hb1
        go_wp2_with fail
        refine (QcW n _ _ _).mono ?_
        rintro e w2 ⟨b2,rfl,hb2,hq2⟩
        obtain ⟨hc2,hf2⟩:=hq2.cells
        have hz3:wo.heap.size < w2.heap.size:=by (have hz2:=hq2.size; omega)
        cases b2 with
        | false=>
          have HB2:=hid (RetB.not hb2)
          clear hb2
          go_wp2
          go_ret
          exact RetB.no (fun h=>HB2.out (h.1 k hlt _ HX.out).2.1) (by (repeat (first | with_reducible exact Q1 _ | with_reducible assumption | with_reducible apply Nw.alloc | with_reducible apply Nw.drew | with_reducible apply Nw.drewN | (with_reducible refine QT ?_ ?_; focus (first | (simp; done) | (simp; omega))) | with_reducible refine Q6 (by assumption) ?_)))
        | true=>
          have HB2:=hid (hb2.1 rfl)
          clear hb2
          have hbx:w2.cell? ⟨wo.heap.size,0,none⟩=some (.string s):=by go_simp
          have hN2:Nw w w2:=by (repeat (first | with_reducible exact Q1 _ | with_reducible assumption | with_reducible apply Nw.alloc | with_reducible apply Nw.drew | with_reducible apply Nw.drewN | (with_reducible refine QT ?_ ?_; focus (first | (simp; done) | (simp; omega))) | with_reducible refine Q6 (by assumption) ?_))
          have hk9:k≤c:=by omega
          clear hc1 hf1 hc2 hf2 c0 c1 hq1 hq2
          go_wp2
          go_loopw [28] (fun i wi=>∃m:Nat,m≤k∧i= .int .i64 m∧(∀j y,j < m→xs[j]? =some y→y.1≠s)∧Nw w2 wi) (fun i _=>k - (intOf i).toNat)
          case atStart=>exact ⟨0,Nat.zero_le _,rfl,fun j y h=>absurd h (by omega),Q1 _⟩
          case round=>
            obtain ⟨m,hm2,rfl,hno,hqi⟩:=hrel
            have HN:=hid hno
            clear hno
            obtain ⟨hci,hfi⟩:=hqi.cells
            have hzi:wo.heap.size < wr.heap.size:=by have:=hqi.size; omega
            by_cases hlm:m < k
            · obtain ⟨b', o', u0, u1, e', hy, d0, d1⟩ := ((hr.nw hN2).nw hqi).at2 rfl (List.getElem?_eq_getElem (show m < xs.length by omega))
              have HYm:=hid (List.getElem?_eq_getElem (show m < xs.length by omega))
              generalize hym:xs[m]=y at*
              clear hym
              obtain ⟨t,n'⟩:=y
              obtain ⟨s0,s1⟩:=hy.open2 rfl
              obtain ⟨rfl, -⟩:=s0.str_
              obtain ⟨rfl, -⟩:=s1.int_
              simp only[Option.some.injEq,Addr.mk.injEq,and_true] at e'
              obtain ⟨rfl,rfl⟩:=e'
              clear hy s0 s1
              go_wp2
              · rename_i he
                go_ret
                exact RetB.no (fun h=>(h.1 k hlt _ HX.out).2.2 m _ hlm HYm.out (QmR he).symm) (by (repeat (first | with_reducible exact Q1 _ | with_reducible assumption | with_reducible apply Nw.alloc | with_reducible apply Nw.drew | with_reducible apply Nw.drewN | (with_reducible refine QT ?_ ?_; focus (first | (simp; done) | (simp; omega))) | with_reducible refine Q6 (by assumption) ?_)))
              · go_roundw
                case rel=>
                  rename_i he
                  exact ⟨m+1,by omega,by go_num,fun j y hj hy=>by
                    by_cases e:j=m
                    · subst e
                      rw[HYm.out] at hy
                      cases hy
                      exact fun e=>QoJ he e.symm
                    · exact HN.out j y (by omega) hy,by (repeat (first | with_reducible exact Q1 _ | with_reducible assumption | with_reducible apply Nw.alloc | with_reducible apply Nw.drew | with_reducible apply Nw.drewN | (with_reducible refine QT ?_ ?_; focus (first | (simp; done) | (simp; omega))) | with_reducible refine Q6 (by assumption) ?_))⟩
                case measure=>simp[intOf]; omega
            · go_wp2
              go_roundw
              case rel=>exact ⟨k+1,by omega,by go_num,SigOkAt.step HY.out (fun x hx=>by
                rw[HX.out] at hx
                cases hx
                exact ⟨HB1.out,HB2.out,fun j y hj hy=>HN.out j y (by omega) hy⟩),by (repeat (first | with_reducible exact Q1 _ | with_reducible assumption | with_reducible apply Nw.alloc | with_reducible apply Nw.drew | with_reducible apply Nw.drewN | (with_reducible refine QT ?_ ?_; focus (first | (simp; done) | (simp; omega))) | with_reducible refine Q6 (by assumption) ?_))⟩
              case measure=>simp[intOf]; omega
    · have : k = xs.length := by omega
      subst this
      go_wp2_with (go_at_call 149; refine (QcW _ _ _ _).mono ?_; rintro e w1 ⟨b,rfl,hb,hq1⟩)
      go_ret
      exact RetB.of (hb.trans ⟨fun h=>⟨HY.out,by omega,by omega⟩,fun h=>by have:=h.2; omega⟩) (hq.trans hq1)
theorem JA:Qt Tryz.prog 223:=fun args W=>Qi Tryz.func223 (by kernel_rfl) rfl args W
theorem Qbu (v0 v1:Value)(x:Q4)(g:Nat)(s:ByteArray)(W:World)(hx:Rep Yi W [v0,v1] x)(hb:W.cell? ⟨g,0,none⟩=some (.string s)):
    Calls Tryz.prog 223 #[.agg #[v0,v1], .pointer (some ⟨g,0,none⟩)] W (RetB (x.1=s) W):=by
  obtain ⟨t,n⟩:=x
  obtain ⟨r0,r1⟩:=hx.open2 rfl
  obtain ⟨rfl, -⟩:=r0.str_
  obtain ⟨rfl, -⟩:=r1.int_
  have hg:g < W.heap.size:=World.block_lt_of_cell? W _ hb
  clear hx r0 r1
  by_cases h:t=s
  · have h2 := Qmq h
    have H:=hid h
    clear h
    go_enter Tryz.func223,Tryz.ntmps223
    go_wp2
    go_ret
    exact RetB.of (by simp only[h2,H.out]) ((Q1 _).alloc _)
  · have h2 := Ql0 h
    have H:=hid h
    clear h
    go_enter Tryz.func223,Tryz.ntmps223
    go_wp2
    go_ret
    exact RetB.of (by simp only[h2,H.out]; simp) ((Q1 _).alloc _)
theorem Qcv (v:Value)(xs:List Q4)(w:World)(hr:Rep (.sl 145 Yi) w [v] xs):Calls Tryz.prog 153 #[v] w (RetB (XL xs) w):=by
  obtain ⟨A,c,rfl,hl,hc⟩:=hr.slv
  have hm:xs.length≤9223372036854775807:=by unfold maxLen at hc; omega
  go_enter Tryz.func153,Tryz.ntmps153
  go_wp2
  go_loopw [7] (fun i wr=>∃k:Nat,k≤xs.length∧i= .int .i64 k∧(∀j,j < k→SigOkAt xs j)∧Nw w wr) (fun i _=>xs.length - (intOf i).toNat)
  case atStart=>exact ⟨0,Nat.zero_le _,rfl,fun j h=>absurd h (by omega),Q1 _⟩
  case round=>
    obtain ⟨wo,rfl⟩:∃wo:World,wo=wr:=⟨_,rfl⟩
    obtain ⟨k,hk,rfl,hyes,hq⟩:=hrel
    have HY:=hid hyes
    clear hyes
    by_cases hlt:k < xs.length
    · obtain ⟨b, o, v0, v1, rfl, hx, c0, c1⟩ := (hr.nw hq).at2 rfl (List.getElem?_eq_getElem hlt)
      have HX:=hid (List.getElem?_eq_getElem hlt)
      generalize hxk:xs[k]=x at*
      clear hxk
      obtain ⟨s,n⟩:=x
      obtain ⟨r0,r1⟩:=hx.open2 rfl
      obtain ⟨rfl,hs⟩:=r0.str_
      obtain ⟨rfl, -⟩:=r1.int_
      have Hs:=hid hs
      clear hx r0 r1 hs
      go_wp2_with fail
      refine (Qc2 s _ Hs.out).mono ?_
      rintro e w1 ⟨b1,rfl,hb1,hq1⟩
      obtain ⟨hc1,hf1⟩:=hq1.cells
      have hz1:wo.heap.size < w1.heap.size:=by (have hz2:=hq1.size; simp at hz2; omega)
      cases b1 with
      | false=>
        have HB1:=hid (RetB.not hb1)
        clear hb1
        go_wp2
        go_ret
        exact RetB.no (fun h=>HB1.out (h.1 k hlt _ HX.out).1) (by (repeat (first | with_reducible exact Q1 _ | with_reducible assumption | with_reducible apply Nw.alloc | with_reducible apply Nw.drew | with_reducible apply Nw.drewN | (with_reducible refine QT ?_ ?_; focus (first | (simp; done) | (simp; omega))) | with_reducible refine Q6 (by assumption) ?_)))
      | true=>
        have HB1:=hid (hb1.1 rfl)
        clear hb1
        go_wp2_with fail
        refine (JX n _ _ _).mono ?_
        rintro e w2 ⟨b2,rfl,hb2,hq2⟩
        obtain ⟨hc2,hf2⟩:=hq2.cells
        have hz3:wo.heap.size < w2.heap.size:=by (have hz2:=hq2.size; omega)
        cases b2 with
        | false=>
          have HB2:=hid (RetB.not hb2)
          clear hb2
          go_wp2
          go_ret
          exact RetB.no (fun h=>HB2.out (h.1 k hlt _ HX.out).2.1) (by (repeat (first | with_reducible exact Q1 _ | with_reducible assumption | with_reducible apply Nw.alloc | with_reducible apply Nw.drew | with_reducible apply Nw.drewN | (with_reducible refine QT ?_ ?_; focus (first | (simp; done) | (simp; omega))) | with_reducible refine Q6 (by assumption) ?_)))
        | true=>
          have HB2:=hid (hb2.1 rfl)
          clear hb2
          have hbx:w2.cell? ⟨wo.heap.size,0,none⟩=some (.string s):=by go_simp
          have hN2:Nw w w2:=by (repeat (first | with_reducible exact Q1 _ | with_reducible assumption | with_reducible apply Nw.alloc | with_reducible apply Nw.drew | with_reducible apply Nw.drewN | (with_reducible refine QT ?_ ?_; focus (first | (simp; done) | (simp; omega))) | with_reducible refine Q6 (by assumption) ?_))
          have hk9:k≤c:=by omega
          have HBX:=hid hbx
          clear hc1 hf1 hc2 hf2 c0 c1 hq1 hq2 hbx
          go_wp2_with fail
          refine (U8 (fun y=>y.1=s) (xs.take k) _ _ _ _ ((hr.nw hN2).cut hk c hk9 hc) JA ?_).mono ?_
          · intro i y W u0 u1 hi hqW hy
            exact Qbu u0 u1 y _ s W hy (by rw[(hqW.cells).1 _ _ hz3]; exact HBX.out)
          · rintro e w3 ⟨b3, rfl, hb3, hq3⟩
            cases b3 with
            | false=>
              have HB3:=hid (RetB.not hb3)
              clear hb3
              go_wp2
              go_roundw
              case rel=>exact ⟨k+1,by omega,by go_num,SigOkAt.step HY.out (fun x hx=>by
                rw[HX.out] at hx
                cases hx
                refine ⟨HB1.out,HB2.out,fun j y hj hy e=>HB3.out ⟨y, ?_,e⟩⟩
                exact List.mem_of_getElem? (i:=j) (by rw[List.getElem?_take,if_pos hj]; exact hy)),by (repeat (first | with_reducible exact Q1 _ | with_reducible assumption | with_reducible apply Nw.alloc | with_reducible apply Nw.drew | with_reducible apply Nw.drewN | (with_reducible refine QT ?_ ?_; focus (first | (simp; done) | (simp; omega))) | with_reducible refine Q6 (by assumption) ?_))⟩
              case measure=>simp[intOf]; omega
            | true=>
              have HB3:=hid (hb3.1 rfl)
              clear hb3
              go_wp2
              go_ret
              refine RetB.no (fun h=> ?_) (by (repeat (first | with_reducible exact Q1 _ | with_reducible assumption | with_reducible apply Nw.alloc | with_reducible apply Nw.drew | with_reducible apply Nw.drewN | (with_reducible refine QT ?_ ?_; focus (first | (simp; done) | (simp; omega))) | with_reducible refine Q6 (by assumption) ?_)))
              obtain ⟨y,hy,e⟩:=HB3.out
              obtain ⟨j,hj⟩:=List.mem_iff_getElem?.1 hy
              rw[List.getElem?_take] at hj
              split at hj
              · exact (h.1 k hlt _ HX.out).2.2 j y (by assumption) hj e
              · cases hj
    · have : k = xs.length := by omega
      subst this
      go_wp2_with (go_at_call 154; refine (JX _ _ _ _).mono ?_; rintro e w1 ⟨b,rfl,hb,hq1⟩)
      go_ret
      exact RetB.of (hb.trans ⟨fun h=>⟨HY.out,by omega,by omega⟩,fun h=>by have:=h.2; omega⟩) (hq.trans hq1)
end Go.Proofs.YtnakmhfjafecpaaGreat
namespace Go.Proofs.YtnakmhfjafecpaaGreat
set_option maxHeartbeats 4000000
set_option maxRecDepth 100000
open Go.RowKit
attribute [local irreducible] TF
theorem Uo {l:List Value}(h:l.length=3):∃a0 a1 a2,l=[a0,a1,a2]:=by
  match l,h with
  | [a0,a1,a2],_=>exact ⟨a0,a1,a2,rfl⟩
theorem Qkg:Trd Tryz.prog 153 ZU:=Trd.st Tryz.underlying153 (by kernel_rfl) (TF.cons _ rfl rfl (Trd.str (by kernel_rfl) (by kernel_rfl)) (Qfs _ rfl rfl (Trd.int (by kernel_rfl) (by kernel_rfl))))
theorem Qps:Trd Tryz.prog 181 Jz:=Trd.st Tryz.underlying181 (by kernel_rfl) (TF.cons _ rfl rfl (Trd.int (by kernel_rfl) (by kernel_rfl)) (TF.cons _ rfl rfl (Trd.int (by kernel_rfl) (by kernel_rfl)) (TF.cons _ rfl rfl (Trd.bool (by kernel_rfl) (by kernel_rfl)) (Qfs _ rfl rfl (Trd.int (by kernel_rfl) (by kernel_rfl))))))
theorem QdC:Trd Tryz.prog 49 ZF:=Trd.st Tryz.underlying49 (by kernel_rfl) (TF.cons _ rfl rfl (Trd.sl (by kernel_rfl) (by kernel_rfl) Qkg) (TF.cons _ rfl rfl (Trd.sl (by kernel_rfl) (by kernel_rfl) (Trd.str (by kernel_rfl) (by kernel_rfl))) (Qfs _ rfl rfl (Trd.sl (by kernel_rfl) (by kernel_rfl) Qps))))
end Go.Proofs.YtnakmhfjafecpaaGreat
namespace Go.Proofs.YtnakmhfjafecpaaGreat
set_option maxHeartbeats 4000000
set_option maxRecDepth 100000
open Go.RowKit
def RisAt (l:List Int)(hi:Int)(k:Nat):Prop:=∀x,l[k]? =some x→(0≤x∧x≤hi)∧∀j y,j+1=k→l[j]? =some y→y < x
def Qlw (l:List Int)(hi:Int):Prop:=∀k,k < l.length→RisAt l hi k
theorem RisAt.step {l:List Int}{hi:Int}{k:Nat}(h:∀j,j < k→RisAt l hi j)(hk:RisAt l hi k):∀j,j < k+1→RisAt l hi j:=by
  intro j hj
  by_cases e:j=k
  · subst e; exact hk
  · exact h j (by omega)
def Qqh (hi:Int)(t:Yp):Prop:=t.1≠[]∧Qlw t.1 hi∧Qlw t.2 hi
def Qqv (n:Qbv):Prop:=(1≤n.1∧n.1≤30)∧n.2.length≤24∧∀t∈n.2,Qqh (n.1 - 1) t
def QpX (c:UInt8):Prop:=c.toNat=48∨c.toNat=49
def BitsAt (s:ByteArray)(k:Nat):Prop:=∀h:k < s.size,QpX s[k]
def Qqu (s:ByteArray)(n:Int):Prop:=(∀k,k < s.size→BitsAt s k)∧(s.size:Int)=n
end Go.Proofs.YtnakmhfjafecpaaGreat
