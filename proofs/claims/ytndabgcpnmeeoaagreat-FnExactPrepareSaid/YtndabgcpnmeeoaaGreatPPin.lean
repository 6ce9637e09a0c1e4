/- What each 'eq..' returns of equal data: true. -/
import Derived.Test.YtndabgcpnmeeoaaGreatPTo
import Derived.Test.YtndabgcpnmeeoaaGreatPOwn
import Derived.StillTailTactics
set_option linter.unusedSimpArgs false
set_option linter.unusedVariables false
set_option linter.unusedSectionVars false
namespace Go.Proofs.YtndabgcpnmeeoaaGreat
set_option maxHeartbeats 4000000
set_option maxRecDepth 100000
open Go.RowKit
def Xd (w:World)(e:Ending)(w':World):Prop:=e= .returned (.bool true)∧Nw w w'
theorem Qg8 (f g d e:Value)(x:QM)(w:World)(h:Rep ZG w [f,g] x)(i:Rep ZG w [d,e] x):
 Calls Tryz.prog 296 #[.agg #[f,g], .agg #[d,e]] w (Xd w):=by
 obtain ⟨o,p⟩:=x
 obtain ⟨k,q0⟩:=h.pr1 rfl
 have l:=q0
 obtain ⟨rfl,a⟩:=k.str_
 have a:o.size≤9223372036854775807:=a
 obtain ⟨rfl,b,c⟩:=l.int_
 obtain ⟨m,j⟩:=i.pr1 rfl
 have n:=j
 obtain ⟨rfl, -⟩:=m.str_
 obtain ⟨rfl, -⟩:=n.int_
 go_enter Tryz.func296,Tryz.ntmps296
 go_wp2
 go_ret
 exact ⟨rfl,by (repeat (first | with_reducible exact Qr _ | with_reducible assumption | with_reducible apply Nw.alloc | with_reducible apply Nw.drew | with_reducible apply Nw.drewN | (with_reducible refine Qm ?_ ?_; focus (first | (simp; done) | (simp; omega))) | with_reducible refine Qt ‹_› ?_))⟩
theorem Ho (v u:Value)(xs:List (QM))(w:World)(hr:Rep (.sl 77 ZG) w [v] xs)(hs:Rep (.sl 77 ZG) w [u] xs):
 Calls Tryz.prog 154 #[v,u] w (Xd w):=by
 obtain ⟨A,c,rfl,hl,hc⟩:=hr.slv
 obtain ⟨A',c',rfl,hl',hc'⟩:=hs.slv
 have hm:xs.length≤9223372036854775807:=by unfold maxLen at hc; omega
 go_enter Tryz.func154,Tryz.ntmps154
 go_wp2
 go_loopw [5] (fun i wr=>∃k:Nat,k≤xs.length∧i= .int .i64 k∧Nw w wr) (fun i _=>xs.length - (intOf i).toNat)
 case atStart=>exact ⟨0,aG _,rfl,Qr _⟩
 case round=>
  obtain ⟨k,hk,rfl,hq⟩:=hrel
  by_cases hlt:k < xs.length
  ·obtain ⟨b,o,v0,v1,rfl,hx,c0,c1⟩:=(hr.nw hq).at2 rfl (ae hlt)
   obtain ⟨b',o',u0,u1,rfl,hy,d0,d1⟩:=(hs.nw hq).at2 rfl (ae hlt)
   have hi0:(0:Int)≤k:=by omega
   have hi1:(k:Int) < xs.length:=by omega
   go_wp2_with fail
   go_still_tail 8,(by kernel_rfl)
   change wpList _ _ _ _ _ wr.drew
   go_wp2_with (go_at_call 296; refine (Qg8 _ _ _ _ _ _ (by exact hx.drew) (by exact hy.drew)).mono ?_; rintro e w1 ⟨rfl,hq1⟩)
   go_roundw
   case rel=>exact ⟨k+1,by omega,by go_num,hq.drew.trans hq1⟩
   case measure=>simp[intOf]; omega
  ·go_wp2
   go_ret
   exact ⟨rfl,hq⟩
theorem Qf1 (v u:Value)(xs:List (ByteArray))(w:World)(e:Rep Qo w [v] xs)(f:Rep Qo w [u] xs):
 Calls Tryz.prog 155 #[v,u] w (Xd w):=by
 obtain ⟨A,c,rfl,B,g⟩:=e.slv
 obtain ⟨r,t,rfl,m,h⟩:=f.slv
 have C:xs.length≤9223372036854775807:=by unfold maxLen at g; omega
 go_enter Tryz.func155,Tryz.ntmps155
 go_wp2
 go_loopw [5] (fun i q=>∃k:Nat,k≤xs.length∧i= .int .i64 k∧Nw w q) (fun i _=>xs.length - (intOf i).toNat)
 case atStart=>exact ⟨0,aG _,rfl,Qr _⟩
 case round=>
  obtain ⟨k,z,rfl,d⟩:=hrel
  by_cases a:k < xs.length
  ·obtain ⟨b,o,F,rfl,n,x⟩:=(e.nw d).at1 rfl (ae a)
   obtain ⟨s,D,E,rfl,p,y⟩:=(f.nw d).at1 rfl (ae a)
   obtain ⟨rfl, -⟩:=n.str_
   obtain ⟨rfl, -⟩:=p.str_
   have j:(0:Int)≤k:=by omega
   have l:(k:Int) < xs.length:=by omega
   go_wp2_with fail
   go_quiet (fail)
   go_wp2
   go_roundw
   case rel=>exact ⟨k+1,by omega,by go_num,d.drewN _⟩
   case measure=>simp[intOf]; omega
  ·go_wp2
   go_ret
   exact ⟨rfl,d⟩
theorem QkE (v u:Value)(xs:List (Int))(w:World)(e:Rep Qz w [v] xs)(f:Rep Qz w [u] xs):
 Calls Tryz.prog 507 #[v,u] w (Xd w):=by
 obtain ⟨A,c,rfl,B,g⟩:=e.slv
 obtain ⟨r,t,rfl,m,h⟩:=f.slv
 have C:xs.length≤9223372036854775807:=by unfold maxLen at g; omega
 go_enter Tryz.func507,Tryz.ntmps507
 go_wp2
 go_loopw [5] (fun i q=>∃k:Nat,k≤xs.length∧i= .int .i64 k∧Nw w q) (fun i _=>xs.length - (intOf i).toNat)
 case atStart=>exact ⟨0,aG _,rfl,Qr _⟩
 case round=>
  obtain ⟨k,z,rfl,d⟩:=hrel
  by_cases a:k < xs.length
  ·obtain ⟨b,o,F,rfl,n,x⟩:=(e.nw d).at1 rfl (ae a)
   obtain ⟨s,D,E,rfl,p,y⟩:=(f.nw d).at1 rfl (ae a)
   obtain ⟨rfl, -⟩:=n.int_
   obtain ⟨rfl, -⟩:=p.int_
   have j:(0:Int)≤k:=by omega
   have l:(k:Int) < xs.length:=by omega
   go_wp2_with fail
   go_quiet (fail)
   go_wp2
   go_roundw
   case rel=>exact ⟨k+1,by omega,by go_num,d.drewN _⟩
   case measure=>simp[intOf]; omega
  ·go_wp2
   go_ret
   exact ⟨rfl,d⟩
theorem QbW (h i f g:Value)(x:QG)(w:World)(l:Rep QN w [h,i] x)(m:Rep QN w [f,g] x):
 Calls Tryz.prog 417 #[.agg #[h,i], .agg #[f,g]] w (Xd w):=by
 obtain ⟨t,u⟩:=x
 obtain ⟨p,q0⟩:=l.pr1 rfl
 have q:=q0
 obtain ⟨r,o⟩:=m.pr1 rfl
 have s:=o
 go_enter Tryz.func417,Tryz.ntmps417
 go_wp2_with (first | (go_at_call 507; refine (QkE _ _ _ _ (by first | exact p.nw (by (repeat (first | with_reducible exact Qr _ | with_reducible assumption | with_reducible apply Nw.alloc | with_reducible apply Nw.drew | with_reducible apply Nw.drewN | (with_reducible refine Qm ?_ ?_; focus (first | (simp; done) | (simp; omega))) | with_reducible refine Qt ‹_› ?_))) | exact q.nw (by (repeat (first | with_reducible exact Qr _ | with_reducible assumption | with_reducible apply Nw.alloc | with_reducible apply Nw.drew | with_reducible apply Nw.drewN | (with_reducible refine Qm ?_ ?_; focus (first | (simp; done) | (simp; omega))) | with_reducible refine Qt ‹_› ?_)))) (by first | exact r.nw (by (repeat (first | with_reducible exact Qr _ | with_reducible assumption | with_reducible apply Nw.alloc | with_reducible apply Nw.drew | with_reducible apply Nw.drewN | (with_reducible refine Qm ?_ ?_; focus (first | (simp; done) | (simp; omega))) | with_reducible refine Qt ‹_› ?_))) | exact s.nw (by (repeat (first | with_reducible exact Qr _ | with_reducible assumption | with_reducible apply Nw.alloc | with_reducible apply Nw.drew | with_reducible apply Nw.drewN | (with_reducible refine Qm ?_ ?_; focus (first | (simp; done) | (simp; omega))) | with_reducible refine Qt ‹_› ?_))))).mono ?_; rintro e d ⟨rfl,a⟩; obtain ⟨j,k⟩:=a.cells; have b:w.heap.size < d.heap.size∧w.heap.size+1 < d.heap.size:=(by (have c:=a.size; (try simp at c); omega)); obtain ⟨b,n⟩:=b; have a:Nw w d:=(by (repeat (first | with_reducible exact Qr _ | with_reducible assumption | with_reducible apply Nw.alloc | with_reducible apply Nw.drew | with_reducible apply Nw.drewN | (with_reducible refine Qm ?_ ?_; focus (first | (simp; done) | (simp; omega))) | with_reducible refine Qt ‹_› ?_)))))
 go_ret
 exact ⟨rfl,by (repeat (first | with_reducible exact Qr _ | with_reducible assumption | with_reducible apply Nw.alloc | with_reducible apply Nw.drew | with_reducible apply Nw.drewN | (with_reducible refine Qm ?_ ?_; focus (first | (simp; done) | (simp; omega))) | with_reducible refine Qt ‹_› ?_))⟩
theorem Qba (v u:Value)(xs:List (QG))(w:World)(hr:Rep (.sl 275 QN) w [v] xs)(hs:Rep (.sl 275 QN) w [u] xs):
 Calls Tryz.prog 298 #[v,u] w (Xd w):=by
 obtain ⟨A,c,rfl,hl,hc⟩:=hr.slv
 obtain ⟨A',c',rfl,hl',hc'⟩:=hs.slv
 have hm:xs.length≤9223372036854775807:=by unfold maxLen at hc; omega
 go_enter Tryz.func298,Tryz.ntmps298
 go_wp2
 go_loopw [5] (fun i wr=>∃k:Nat,k≤xs.length∧i= .int .i64 k∧Nw w wr) (fun i _=>xs.length - (intOf i).toNat)
 case atStart=>exact ⟨0,aG _,rfl,Qr _⟩
 case round=>
  obtain ⟨k,hk,rfl,hq⟩:=hrel
  by_cases hlt:k < xs.length
  ·obtain ⟨b,o,v0,v1,rfl,hx,c0,c1⟩:=(hr.nw hq).at2 rfl (ae hlt)
   obtain ⟨b',o',u0,u1,rfl,hy,d0,d1⟩:=(hs.nw hq).at2 rfl (ae hlt)
   have hi0:(0:Int)≤k:=by omega
   have hi1:(k:Int) < xs.length:=by omega
   go_wp2_with fail
   go_still_tail 8,(by kernel_rfl)
   change wpList _ _ _ _ _ wr.drew
   go_wp2_with (go_at_call 417; refine (QbW _ _ _ _ _ _ (by exact hx.drew) (by exact hy.drew)).mono ?_; rintro e w1 ⟨rfl,hq1⟩)
   go_roundw
   case rel=>exact ⟨k+1,by omega,by go_num,hq.drew.trans hq1⟩
   case measure=>simp[intOf]; omega
  ·go_wp2
   go_ret
   exact ⟨rfl,hq⟩
theorem QnJ (j k h i:Value)(x:V8)(w:World)(n:Rep QdB w [j,k] x)(o:Rep QdB w [h,i] x):
 Calls Tryz.prog 157 #[.agg #[j,k], .agg #[h,i]] w (Xd w):=by
 obtain ⟨v,y⟩:=x
 obtain ⟨r,q0⟩:=n.pr1 rfl
 have s:=q0
 obtain ⟨rfl,f,g⟩:=r.int_
 obtain ⟨t,q⟩:=o.pr1 rfl
 have u:=q
 obtain ⟨rfl, -⟩:=t.int_
 go_enter Tryz.func157,Tryz.ntmps157
 go_wp2_with (first | (go_at_call 298; refine (Qba _ _ _ _ (by first | exact s.nw (by (repeat (first | with_reducible exact Qr _ | with_reducible assumption | with_reducible apply Nw.alloc | with_reducible apply Nw.drew | with_reducible apply Nw.drewN | (with_reducible refine Qm ?_ ?_; focus (first | (simp; done) | (simp; omega))) | with_reducible refine Qt ‹_› ?_)))) (by first | exact u.nw (by (repeat (first | with_reducible exact Qr _ | with_reducible assumption | with_reducible apply Nw.alloc | with_reducible apply Nw.drew | with_reducible apply Nw.drewN | (with_reducible refine Qm ?_ ?_; focus (first | (simp; done) | (simp; omega))) | with_reducible refine Qt ‹_› ?_))))).mono ?_; rintro e d ⟨rfl,a⟩; obtain ⟨l,m⟩:=a.cells; have b:w.heap.size < d.heap.size∧w.heap.size+1 < d.heap.size:=(by (have c:=a.size; (try simp at c); omega)); obtain ⟨b,p⟩:=b; have a:Nw w d:=(by (repeat (first | with_reducible exact Qr _ | with_reducible assumption | with_reducible apply Nw.alloc | with_reducible apply Nw.drew | with_reducible apply Nw.drewN | (with_reducible refine Qm ?_ ?_; focus (first | (simp; done) | (simp; omega))) | with_reducible refine Qt ‹_› ?_)))))
 go_ret
 exact ⟨rfl,by (repeat (first | with_reducible exact Qr _ | with_reducible assumption | with_reducible apply Nw.alloc | with_reducible apply Nw.drew | with_reducible apply Nw.drewN | (with_reducible refine Qm ?_ ?_; focus (first | (simp; done) | (simp; omega))) | with_reducible refine Qt ‹_› ?_))⟩
theorem Qi5 (e f c d:Value)(x:Zl)(w:World)(g:Rep Yv w [e,f] x)(h:Rep Yv w [c,d] x):
 Calls Tryz.prog 299 #[.agg #[e,f], .agg #[c,d]] w (Xd w):=by
 obtain ⟨n,o⟩:=x
 obtain ⟨j,q0⟩:=g.pr1 rfl
 have k:=q0
 obtain ⟨rfl,a,b⟩:=j.int_
 obtain rfl:=k.bool_
 obtain ⟨l,i⟩:=h.pr1 rfl
 have m:=i
 obtain ⟨rfl, -⟩:=l.int_
 obtain rfl:=m.bool_
 go_enter Tryz.func299,Tryz.ntmps299
 go_wp2
 go_ret
 exact ⟨rfl,by (repeat (first | with_reducible exact Qr _ | with_reducible assumption | with_reducible apply Nw.alloc | with_reducible apply Nw.drew | with_reducible apply Nw.drewN | (with_reducible refine Qm ?_ ?_; focus (first | (simp; done) | (simp; omega))) | with_reducible refine Qt ‹_› ?_))⟩
theorem Qg7 (v u:Value)(xs:List (Zl))(w:World)(hr:Rep (.sl 75 Yv) w [v] xs)(hs:Rep (.sl 75 Yv) w [u] xs):
 Calls Tryz.prog 158 #[v,u] w (Xd w):=by
 obtain ⟨A,c,rfl,hl,hc⟩:=hr.slv
 obtain ⟨A',c',rfl,hl',hc'⟩:=hs.slv
 have hm:xs.length≤9223372036854775807:=by unfold maxLen at hc; omega
 go_enter Tryz.func158,Tryz.ntmps158
 go_wp2
 go_loopw [5] (fun i wr=>∃k:Nat,k≤xs.length∧i= .int .i64 k∧Nw w wr) (fun i _=>xs.length - (intOf i).toNat)
 case atStart=>exact ⟨0,aG _,rfl,Qr _⟩
 case round=>
  obtain ⟨k,hk,rfl,hq⟩:=hrel
  by_cases hlt:k < xs.length
  ·obtain ⟨b,o,v0,v1,rfl,hx,c0,c1⟩:=(hr.nw hq).at2 rfl (ae hlt)
   obtain ⟨b',o',u0,u1,rfl,hy,d0,d1⟩:=(hs.nw hq).at2 rfl (ae hlt)
   have hi0:(0:Int)≤k:=by omega
   have hi1:(k:Int) < xs.length:=by omega
   go_wp2_with fail
   go_still_tail 8,(by kernel_rfl)
   change wpList _ _ _ _ _ wr.drew
   go_wp2_with (go_at_call 299; refine (Qi5 _ _ _ _ _ _ (by exact hx.drew) (by exact hy.drew)).mono ?_; rintro e w1 ⟨rfl,hq1⟩)
   go_roundw
   case rel=>exact ⟨k+1,by omega,by go_num,hq.drew.trans hq1⟩
   case measure=>simp[intOf]; omega
  ·go_wp2
   go_ret
   exact ⟨rfl,hq⟩
theorem QnK (o p q r s j k l m n:Value)(x:Yz)(w:World)(t:Rep QcI w [o,p,q,r,s] x)(u:Rep QcI w [j,k,l,m,n] x):
 Calls Tryz.prog 46 #[.agg #[o,p,q,r,s], .agg #[j,k,l,m,n]] w (Xd w):=by
 obtain ⟨L,M,N,K⟩:=x
 obtain ⟨C,q0⟩:=t.pr2 rfl
 obtain ⟨D,A⟩:=q0.pr1 rfl
 obtain ⟨E,B⟩:=A.pr1 rfl
 have F:=B
 obtain ⟨rfl,h⟩:=F.str_
 have h:K.size≤9223372036854775807:=h
 obtain ⟨G,v⟩:=u.pr2 rfl
 obtain ⟨H,y⟩:=v.pr1 rfl
 obtain ⟨I,z⟩:=y.pr1 rfl
 have J:=z
 obtain ⟨rfl, -⟩:=J.str_
 go_enter Tryz.func46,Tryz.ntmps46
 go_wp2_with (first | (go_at_call 157; refine (QnJ _ _ _ _ _ _ (by first | exact C.nw (by (repeat (first | with_reducible exact Qr _ | with_reducible assumption | with_reducible apply Nw.alloc | with_reducible apply Nw.drew | with_reducible apply Nw.drewN | (with_reducible refine Qm ?_ ?_; focus (first | (simp; done) | (simp; omega))) | with_reducible refine Qt ‹_› ?_)))) (by first | exact G.nw (by (repeat (first | with_reducible exact Qr _ | with_reducible assumption | with_reducible apply Nw.alloc | with_reducible apply Nw.drew | with_reducible apply Nw.drewN | (with_reducible refine Qm ?_ ?_; focus (first | (simp; done) | (simp; omega))) | with_reducible refine Qt ‹_› ?_))))).mono ?_; rintro e d ⟨rfl,a⟩; obtain ⟨f,g⟩:=a.cells; have b:w.heap.size < d.heap.size∧w.heap.size+1 < d.heap.size:=(by (have c:=a.size; (try simp at c); omega)); obtain ⟨b,i⟩:=b; have a:Nw w d:=(by (repeat (first | with_reducible exact Qr _ | with_reducible assumption | with_reducible apply Nw.alloc | with_reducible apply Nw.drew | with_reducible apply Nw.drewN | (with_reducible refine Qm ?_ ?_; focus (first | (simp; done) | (simp; omega))) | with_reducible refine Qt ‹_› ?_)))) | (go_at_call 154; refine (Ho _ _ _ _ (by first | exact D.nw (by (repeat (first | with_reducible exact Qr _ | with_reducible assumption | with_reducible apply Nw.alloc | with_reducible apply Nw.drew | with_reducible apply Nw.drewN | (with_reducible refine Qm ?_ ?_; focus (first | (simp; done) | (simp; omega))) | with_reducible refine Qt ‹_› ?_)))) (by first | exact H.nw (by (repeat (first | with_reducible exact Qr _ | with_reducible assumption | with_reducible apply Nw.alloc | with_reducible apply Nw.drew | with_reducible apply Nw.drewN | (with_reducible refine Qm ?_ ?_; focus (first | (simp; done) | (simp; omega))) | with_reducible refine Qt ‹_› ?_))))).mono ?_; rintro e d ⟨rfl,a⟩; obtain ⟨f,g⟩:=a.cells; have b:w.heap.size < d.heap.size∧w.heap.size+1 < d.heap.size:=(by (have c:=a.size; (try simp at c); omega)); obtain ⟨b,i⟩:=b; have a:Nw w d:=(by (repeat (first | with_reducible exact Qr _ | with_reducible assumption | with_reducible apply Nw.alloc | with_reducible apply Nw.drew | with_reducible apply Nw.drewN | (with_reducible refine Qm ?_ ?_; focus (first | (simp; done) | (simp; omega))) | with_reducible refine Qt ‹_› ?_)))) | (go_at_call 158; refine (Qg7 _ _ _ _ (by first | exact E.nw (by (repeat (first | with_reducible exact Qr _ | with_reducible assumption | with_reducible apply Nw.alloc | with_reducible apply Nw.drew | with_reducible apply Nw.drewN | (with_reducible refine Qm ?_ ?_; focus (first | (simp; done) | (simp; omega))) | with_reducible refine Qt ‹_› ?_)))) (by first | exact I.nw (by (repeat (first | with_reducible exact Qr _ | with_reducible assumption | with_reducible apply Nw.alloc | with_reducible apply Nw.drew | with_reducible apply Nw.drewN | (with_reducible refine Qm ?_ ?_; focus (first | (simp; done) | (simp; omega))) | with_reducible refine Qt ‹_› ?_))))).mono ?_; rintro e d ⟨rfl,a⟩; obtain ⟨f,g⟩:=a.cells; have b:w.heap.size < d.heap.size∧w.heap.size+1 < d.heap.size:=(by (have c:=a.size; (try simp at c); omega)); obtain ⟨b,i⟩:=b; have a:Nw w d:=(by (repeat (first | with_reducible exact Qr _ | with_reducible assumption | with_reducible apply Nw.alloc | with_reducible apply Nw.drew | with_reducible apply Nw.drewN | (with_reducible refine Qm ?_ ?_; focus (first | (simp; done) | (simp; omega))) | with_reducible refine Qt ‹_› ?_)))))
 go_ret
 exact ⟨rfl,by (repeat (first | with_reducible exact Qr _ | with_reducible assumption | with_reducible apply Nw.alloc | with_reducible apply Nw.drew | with_reducible apply Nw.drewN | (with_reducible refine Qm ?_ ?_; focus (first | (simp; done) | (simp; omega))) | with_reducible refine Qt ‹_› ?_))⟩
theorem QnI (k l m n g h i j:Value)(x:QdY)(w:World)(o:Rep Qtw w [k,l,m,n] x)(p:Rep Qtw w [g,h,i,j] x):
 Calls Tryz.prog 297 #[.agg #[k,l,m,n], .agg #[g,h,i,j]] w (Xd w):=by
 obtain ⟨F,G,H,I⟩:=x
 obtain ⟨v,q0⟩:=o.pr1 rfl
 obtain ⟨y,t⟩:=q0.pr1 rfl
 obtain ⟨z,u⟩:=t.pr1 rfl
 have A:=u
 obtain ⟨rfl,a,b⟩:=v.int_
 obtain ⟨rfl,c,d⟩:=y.int_
 obtain rfl:=z.bool_
 obtain ⟨rfl,e,f⟩:=A.int_
 obtain ⟨B,q⟩:=p.pr1 rfl
 obtain ⟨C,r⟩:=q.pr1 rfl
 obtain ⟨D,s⟩:=r.pr1 rfl
 have E:=s
 obtain ⟨rfl, -⟩:=B.int_
 obtain ⟨rfl, -⟩:=C.int_
 obtain rfl:=D.bool_
 obtain ⟨rfl, -⟩:=E.int_
 go_enter Tryz.func297,Tryz.ntmps297
 go_wp2
 go_ret
 exact ⟨rfl,by (repeat (first | with_reducible exact Qr _ | with_reducible assumption | with_reducible apply Nw.alloc | with_reducible apply Nw.drew | with_reducible apply Nw.drewN | (with_reducible refine Qm ?_ ?_; focus (first | (simp; done) | (simp; omega))) | with_reducible refine Qt ‹_› ?_))⟩
theorem QkD (v u:Value)(xs:List (QdY))(w:World)(hr:Rep (.sl 154 Qtw) w [v] xs)(hs:Rep (.sl 154 Qtw) w [u] xs):
 Calls Tryz.prog 156 #[v,u] w (Xd w):=by
 obtain ⟨A,c,rfl,hl,hc⟩:=hr.slv
 obtain ⟨A',c',rfl,hl',hc'⟩:=hs.slv
 have hm:xs.length≤9223372036854775807:=by unfold maxLen at hc; omega
 go_enter Tryz.func156,Tryz.ntmps156
 go_wp2
 go_loopw [5] (fun i wr=>∃k:Nat,k≤xs.length∧i= .int .i64 k∧Nw w wr) (fun i _=>xs.length - (intOf i).toNat)
 case atStart=>exact ⟨0,aG _,rfl,Qr _⟩
 case round=>
  obtain ⟨k,hk,rfl,hq⟩:=hrel
  by_cases hlt:k < xs.length
  ·obtain ⟨b,o,v0,v1,v2,v3,rfl,hx,c0,c1,c2,c3⟩:=(hr.nw hq).at4 rfl (ae hlt)
   obtain ⟨b',o',u0,u1,u2,u3,rfl,hy,d0,d1,d2,d3⟩:=(hs.nw hq).at4 rfl (ae hlt)
   have hi0:(0:Int)≤k:=by omega
   have hi1:(k:Int) < xs.length:=by omega
   go_wp2_with fail
   go_still_tail 8,(by kernel_rfl)
   change wpList _ _ _ _ _ wr.drew
   go_wp2_with (go_at_call 297; refine (QnI _ _ _ _ _ _ _ _ _ _ (by exact hx.drew) (by exact hy.drew)).mono ?_; rintro e w1 ⟨rfl,hq1⟩)
   go_roundw
   case rel=>exact ⟨k+1,by omega,by go_num,hq.drew.trans hq1⟩
   case measure=>simp[intOf]; omega
  ·go_wp2
   go_ret
   exact ⟨rfl,hq⟩
theorem QbV (l m n i j k:Value)(x:QdI)(w:World)(o:Rep U0 w [l,m,n] x)(p:Rep U0 w [i,j,k] x):
 Calls Tryz.prog 45 #[.agg #[l,m,n], .agg #[i,j,k]] w (Xd w):=by
 obtain ⟨B,C,D⟩:=x
 obtain ⟨t,q0⟩:=o.pr1 rfl
 obtain ⟨u,s⟩:=q0.pr1 rfl
 have v:=s
 obtain ⟨y,q⟩:=p.pr1 rfl
 obtain ⟨z,r⟩:=q.pr1 rfl
 have A:=r
 go_enter Tryz.func45,Tryz.ntmps45
 go_wp2_with (first | (go_at_call 154; refine (Ho _ _ _ _ (by first | exact t.nw (by (repeat (first | with_reducible exact Qr _ | with_reducible assumption | with_reducible apply Nw.alloc | with_reducible apply Nw.drew | with_reducible apply Nw.drewN | (with_reducible refine Qm ?_ ?_; focus (first | (simp; done) | (simp; omega))) | with_reducible refine Qt ‹_› ?_)))) (by first | exact y.nw (by (repeat (first | with_reducible exact Qr _ | with_reducible assumption | with_reducible apply Nw.alloc | with_reducible apply Nw.drew | with_reducible apply Nw.drewN | (with_reducible refine Qm ?_ ?_; focus (first | (simp; done) | (simp; omega))) | with_reducible refine Qt ‹_› ?_))))).mono ?_; rintro e d ⟨rfl,a⟩; obtain ⟨f,g⟩:=a.cells; have b:w.heap.size < d.heap.size∧w.heap.size+1 < d.heap.size:=(by (have c:=a.size; (try simp at c); omega)); obtain ⟨b,h⟩:=b; have a:Nw w d:=(by (repeat (first | with_reducible exact Qr _ | with_reducible assumption | with_reducible apply Nw.alloc | with_reducible apply Nw.drew | with_reducible apply Nw.drewN | (with_reducible refine Qm ?_ ?_; focus (first | (simp; done) | (simp; omega))) | with_reducible refine Qt ‹_› ?_)))) | (go_at_call 155; refine (Qf1 _ _ _ _ (by first | exact u.nw (by (repeat (first | with_reducible exact Qr _ | with_reducible assumption | with_reducible apply Nw.alloc | with_reducible apply Nw.drew | with_reducible apply Nw.drewN | (with_reducible refine Qm ?_ ?_; focus (first | (simp; done) | (simp; omega))) | with_reducible refine Qt ‹_› ?_)))) (by first | exact z.nw (by (repeat (first | with_reducible exact Qr _ | with_reducible assumption | with_reducible apply Nw.alloc | with_reducible apply Nw.drew | with_reducible apply Nw.drewN | (with_reducible refine Qm ?_ ?_; focus (first | (simp; done) | (simp; omega))) | with_reducible refine Qt ‹_› ?_))))).mono ?_; rintro e d ⟨rfl,a⟩; obtain ⟨f,g⟩:=a.cells; have b:w.heap.size < d.heap.size∧w.heap.size+1 < d.heap.size:=(by (have c:=a.size; (try simp at c); omega)); obtain ⟨b,h⟩:=b; have a:Nw w d:=(by (repeat (first | with_reducible exact Qr _ | with_reducible assumption | with_reducible apply Nw.alloc | with_reducible apply Nw.drew | with_reducible apply Nw.drewN | (with_reducible refine Qm ?_ ?_; focus (first | (simp; done) | (simp; omega))) | with_reducible refine Qt ‹_› ?_)))) | (go_at_call 156; refine (QkD _ _ _ _ (by first | exact v.nw (by (repeat (first | with_reducible exact Qr _ | with_reducible assumption | with_reducible apply Nw.alloc | with_reducible apply Nw.drew | with_reducible apply Nw.drewN | (with_reducible refine Qm ?_ ?_; focus (first | (simp; done) | (simp; omega))) | with_reducible refine Qt ‹_› ?_)))) (by first | exact A.nw (by (repeat (first | with_reducible exact Qr _ | with_reducible assumption | with_reducible apply Nw.alloc | with_reducible apply Nw.drew | with_reducible apply Nw.drewN | (with_reducible refine Qm ?_ ?_; focus (first | (simp; done) | (simp; omega))) | with_reducible refine Qt ‹_› ?_))))).mono ?_; rintro e d ⟨rfl,a⟩; obtain ⟨f,g⟩:=a.cells; have b:w.heap.size < d.heap.size∧w.heap.size+1 < d.heap.size:=(by (have c:=a.size; (try simp at c); omega)); obtain ⟨b,h⟩:=b; have a:Nw w d:=(by (repeat (first | with_reducible exact Qr _ | with_reducible assumption | with_reducible apply Nw.alloc | with_reducible apply Nw.drew | with_reducible apply Nw.drewN | (with_reducible refine Qm ?_ ?_; focus (first | (simp; done) | (simp; omega))) | with_reducible refine Qt ‹_› ?_)))))
 go_ret
 exact ⟨rfl,by (repeat (first | with_reducible exact Qr _ | with_reducible assumption | with_reducible apply Nw.alloc | with_reducible apply Nw.drew | with_reducible apply Nw.drewN | (with_reducible refine Qm ?_ ?_; focus (first | (simp; done) | (simp; omega))) | with_reducible refine Qt ‹_› ?_))⟩
end Go.Proofs.YtndabgcpnmeeoaaGreat
namespace Go.Proofs.YtndabgcpnmeeoaaGreat
set_option maxHeartbeats 4000000
set_option maxRecDepth 100000
open Go.RowKit
theorem Qaw (p:QM→Prop)(xs:List (QM))(v:Value)(F:Nat)(caps:Array Value)(w:World)(hr:Rep (.sl 77 ZG) w [v] xs)(hcf:Qh Tryz.prog F)
 (hF:∀(i:Nat) (x:QM) (W:World) (v0 v1:Value),xs[i]? =some x→Nw w W→Rep ZG W [v0,v1] x→Calls Tryz.prog F (#[.agg #[v0,v1]]++caps) W (RetB (p x) W)):
 Calls Tryz.prog 438 #[v, .func (.func F) #[] caps] w (QlM p xs w):=by
 obtain ⟨A,c,rfl,hl,hc⟩:=hr.slv
 have hm:xs.length≤9223372036854775807:=by unfold maxLen at hc; omega
 have HF:=hid hF
 clear hF
 go_enter Tryz.func438,Tryz.ntmps438
 go_wp2
 go_loopw [8] (fun i wr=>∃k:Nat,k≤xs.length∧i= .int .i64 k∧(∀j x,j < k→xs[j]? =some x→¬p x)∧Nw w wr) (fun i _=>xs.length - (intOf i).toNat)
 case atStart=>exact ⟨0,aG _,rfl,fun j x h=>absurd h (by omega),Qr _⟩
 case round=>
  obtain ⟨k,hk,rfl,hno,hq⟩:=hrel
  have HN:=hid hno
  clear hno
  by_cases hlt:k < xs.length
  ·obtain ⟨b,o,v0,v1,rfl,hx,c0,c1⟩:=(hr.nw hq).at2 rfl (ae hlt)
   have hcf:=hcf
   unfold Qh at hcf
   have hcall:=HF.out k _ wr v0 v1 (ae hlt) hq hx
   have HC:=hid hcall
   clear hcall
   go_wp2_with fail
   refine Calls.mono HC.out ?_
   rintro e w1 ⟨bb,rfl,hb,hq1⟩
   cases bb with
   | true=>
    have HP:=hid (hb.1 rfl)
    clear hb
    go_wp2
    go_ret
    exact ⟨_,rfl, .inr ⟨k,rfl,hlt,fun y hy=>by rw[ae hlt] at hy; cases hy; exact HP.out,HN.out⟩,hq.trans hq1⟩
   | false=>
    have HP:=hid (fun hp=>absurd (hb.2 hp) (by simp):¬p xs[k])
    clear hb
    go_wp2
    go_roundw
    case rel=>exact ⟨k+1,by omega,by go_num,fun j y hj hy=>by
     by_cases e1:j=k
     ·subst e1
      rw[ae hlt] at hy
      cases hy
      exact HP.out
     ·exact HN.out j y (by omega) hy,hq.trans hq1⟩
    case measure=>simp[intOf]; omega
  ·go_wp2
   go_ret
   refine ⟨_,rfl, .inl ⟨rfl,fun x hx=> ?_⟩,hq⟩
   obtain ⟨j,hj,hjx⟩:=List.mem_iff_getElem.1 hx
   exact HN.out j x (by omega) (by rw[ae hj,hjx])
theorem Je (p:QM→Prop)(xs:List (QM))(v:Value)(F:Nat)(caps:Array Value)(w:World)(g:Rep (.sl 77 ZG) w [v] xs)(b:Qh Tryz.prog F)
 (hF:∀(i:Nat) (x:QM) (W:World) (h j:Value),xs[i]? =some x→Nw w W→Rep ZG W [h,j] x→Calls Tryz.prog F (#[.agg #[h,j]]++caps) W (RetB (p x) W)):
 Calls Tryz.prog 313 #[v, .func (.func F) #[] caps] w (RetB (∃x∈xs,p x) w):=by
 have a:=Qaw p xs v F caps w g b hF
 obtain ⟨A,c,rfl,q,m⟩:=g.slv
 have n:xs.length≤9223372036854775807:=by unfold maxLen at m; omega
 have k:=hid a
 clear a hF
 go_enter Tryz.func313,Tryz.ntmps313
 go_wp2_with fail
 refine Calls.mono k.out ?_
 rintro e s ⟨r,rfl,d,f⟩
 have o:=d.range n
 have l:=hid d
 clear d
 go_wp2
 go_ret
 exact RetB.of (by rw[← l.out.any]; simp) f
theorem KM (p:QG→Prop)(xs:List (QG))(v:Value)(F:Nat)(caps:Array Value)(w:World)(hr:Rep (.sl 275 QN) w [v] xs)(hcf:Qh Tryz.prog F)
 (hF:∀(i:Nat) (x:QG) (W:World) (v0 v1:Value),xs[i]? =some x→Nw w W→Rep QN W [v0,v1] x→Calls Tryz.prog F (#[.agg #[v0,v1]]++caps) W (RetB (p x) W)):
 Calls Tryz.prog 531 #[v, .func (.func F) #[] caps] w (QlM p xs w):=by
 obtain ⟨A,c,rfl,hl,hc⟩:=hr.slv
 have hm:xs.length≤9223372036854775807:=by unfold maxLen at hc; omega
 have HF:=hid hF
 clear hF
 go_enter Tryz.func531,Tryz.ntmps531
 go_wp2
 go_loopw [8] (fun i wr=>∃k:Nat,k≤xs.length∧i= .int .i64 k∧(∀j x,j < k→xs[j]? =some x→¬p x)∧Nw w wr) (fun i _=>xs.length - (intOf i).toNat)
 case atStart=>exact ⟨0,aG _,rfl,fun j x h=>absurd h (by omega),Qr _⟩
 case round=>
  obtain ⟨k,hk,rfl,hno,hq⟩:=hrel
  have HN:=hid hno
  clear hno
  by_cases hlt:k < xs.length
  ·obtain ⟨b,o,v0,v1,rfl,hx,c0,c1⟩:=(hr.nw hq).at2 rfl (ae hlt)
   have hcf:=hcf
   unfold Qh at hcf
   have hcall:=HF.out k _ wr v0 v1 (ae hlt) hq hx
   have HC:=hid hcall
   clear hcall
   go_wp2_with fail
   refine Calls.mono HC.out ?_
   rintro e w1 ⟨bb,rfl,hb,hq1⟩
   cases bb with
   | true=>
    have HP:=hid (hb.1 rfl)
    clear hb
    go_wp2
    go_ret
    exact ⟨_,rfl, .inr ⟨k,rfl,hlt,fun y hy=>by rw[ae hlt] at hy; cases hy; exact HP.out,HN.out⟩,hq.trans hq1⟩
   | false=>
    have HP:=hid (fun hp=>absurd (hb.2 hp) (by simp):¬p xs[k])
    clear hb
    go_wp2
    go_roundw
    case rel=>exact ⟨k+1,by omega,by go_num,fun j y hj hy=>by
     by_cases e1:j=k
     ·subst e1
      rw[ae hlt] at hy
      cases hy
      exact HP.out
     ·exact HN.out j y (by omega) hy,hq.trans hq1⟩
    case measure=>simp[intOf]; omega
  ·go_wp2
   go_ret
   refine ⟨_,rfl, .inl ⟨rfl,fun x hx=> ?_⟩,hq⟩
   obtain ⟨j,hj,hjx⟩:=List.mem_iff_getElem.1 hx
   exact HN.out j x (by omega) (by rw[ae hj,hjx])
theorem Uj (p:QG→Prop)(xs:List (QG))(v:Value)(F:Nat)(caps:Array Value)(w:World)(g:Rep (.sl 275 QN) w [v] xs)(b:Qh Tryz.prog F)
 (hF:∀(i:Nat) (x:QG) (W:World) (h j:Value),xs[i]? =some x→Nw w W→Rep QN W [h,j] x→Calls Tryz.prog F (#[.agg #[h,j]]++caps) W (RetB (p x) W)):
 Calls Tryz.prog 474 #[v, .func (.func F) #[] caps] w (RetB (∃x∈xs,p x) w):=by
 have a:=KM p xs v F caps w g b hF
 obtain ⟨A,c,rfl,q,m⟩:=g.slv
 have n:xs.length≤9223372036854775807:=by unfold maxLen at m; omega
 have k:=hid a
 clear a hF
 go_enter Tryz.func474,Tryz.ntmps474
 go_wp2_with fail
 refine Calls.mono k.out ?_
 rintro e s ⟨r,rfl,d,f⟩
 have o:=d.range n
 have l:=hid d
 clear d
 go_wp2
 go_ret
 exact RetB.of (by rw[← l.out.any]; simp) f
theorem Qbq (p:Zl→Prop)(xs:List (Zl))(v:Value)(F:Nat)(caps:Array Value)(w:World)(hr:Rep (.sl 75 Yv) w [v] xs)(hcf:Qh Tryz.prog F)
 (hF:∀(i:Nat) (x:Zl) (W:World) (v0 v1:Value),xs[i]? =some x→Nw w W→Rep Yv W [v0,v1] x→Calls Tryz.prog F (#[.agg #[v0,v1]]++caps) W (RetB (p x) W)):
 Calls Tryz.prog 383 #[v, .func (.func F) #[] caps] w (QlM p xs w):=by
 obtain ⟨A,c,rfl,hl,hc⟩:=hr.slv
 have hm:xs.length≤9223372036854775807:=by unfold maxLen at hc; omega
 have HF:=hid hF
 clear hF
 go_enter Tryz.func383,Tryz.ntmps383
 go_wp2
 go_loopw [8] (fun i wr=>∃k:Nat,k≤xs.length∧i= .int .i64 k∧(∀j x,j < k→xs[j]? =some x→¬p x)∧Nw w wr) (fun i _=>xs.length - (intOf i).toNat)
 case atStart=>exact ⟨0,aG _,rfl,fun j x h=>absurd h (by omega),Qr _⟩
 case round=>
  obtain ⟨k,hk,rfl,hno,hq⟩:=hrel
  have HN:=hid hno
  clear hno
  by_cases hlt:k < xs.length
  ·obtain ⟨b,o,v0,v1,rfl,hx,c0,c1⟩:=(hr.nw hq).at2 rfl (ae hlt)
   have hcf:=hcf
   unfold Qh at hcf
   have hcall:=HF.out k _ wr v0 v1 (ae hlt) hq hx
   have HC:=hid hcall
   clear hcall
   go_wp2_with fail
   refine Calls.mono HC.out ?_
   rintro e w1 ⟨bb,rfl,hb,hq1⟩
   cases bb with
   | true=>
    have HP:=hid (hb.1 rfl)
    clear hb
    go_wp2
    go_ret
    exact ⟨_,rfl, .inr ⟨k,rfl,hlt,fun y hy=>by rw[ae hlt] at hy; cases hy; exact HP.out,HN.out⟩,hq.trans hq1⟩
   | false=>
    have HP:=hid (fun hp=>absurd (hb.2 hp) (by simp):¬p xs[k])
    clear hb
    go_wp2
    go_roundw
    case rel=>exact ⟨k+1,by omega,by go_num,fun j y hj hy=>by
     by_cases e1:j=k
     ·subst e1
      rw[ae hlt] at hy
      cases hy
      exact HP.out
     ·exact HN.out j y (by omega) hy,hq.trans hq1⟩
    case measure=>simp[intOf]; omega
  ·go_wp2
   go_ret
   refine ⟨_,rfl, .inl ⟨rfl,fun x hx=> ?_⟩,hq⟩
   obtain ⟨j,hj,hjx⟩:=List.mem_iff_getElem.1 hx
   exact HN.out j x (by omega) (by rw[ae hj,hjx])
theorem JV (p:Zl→Prop)(xs:List (Zl))(v:Value)(F:Nat)(caps:Array Value)(w:World)(g:Rep (.sl 75 Yv) w [v] xs)(b:Qh Tryz.prog F)
 (hF:∀(i:Nat) (x:Zl) (W:World) (h j:Value),xs[i]? =some x→Nw w W→Rep Yv W [h,j] x→Calls Tryz.prog F (#[.agg #[h,j]]++caps) W (RetB (p x) W)):
 Calls Tryz.prog 261 #[v, .func (.func F) #[] caps] w (RetB (∃x∈xs,p x) w):=by
 have a:=Qbq p xs v F caps w g b hF
 obtain ⟨A,c,rfl,q,m⟩:=g.slv
 have n:xs.length≤9223372036854775807:=by unfold maxLen at m; omega
 have k:=hid a
 clear a hF
 go_enter Tryz.func261,Tryz.ntmps261
 go_wp2_with fail
 refine Calls.mono k.out ?_
 rintro e s ⟨r,rfl,d,f⟩
 have o:=d.range n
 have l:=hid d
 clear d
 go_wp2
 go_ret
 exact RetB.of (by rw[← l.out.any]; simp) f
end Go.Proofs.YtndabgcpnmeeoaaGreat
namespace Go.Proofs.YtndabgcpnmeeoaaGreat
set_option maxHeartbeats 4000000
set_option maxRecDepth 100000
open Go.RowKit
theorem Qts {s t:ByteArray}(h:(s.toList==t.toList)=true):s=t:=by
 have h:s.toList=t.toList:=by simpa using h
 rw[bw,bw] at h
 cases s; cases t
 exact congrArg _ (Array.toList_inj.1 h)
theorem Qwx {s t:ByteArray}(h:(s.toList==t.toList)=false):s≠t:=by
 rintro rfl
 simp at h
theorem Qtu {s t:ByteArray}(h:s=t):(s.toList==t.toList)=true:=by subst h; simp
theorem Qtt {s t:ByteArray}(h:s≠t):(s.toList==t.toList)=false:=by
 cases e:(s.toList==t.toList) with
 | false=>rfl
 | true=>exact absurd (Qts e) h
def Xn (k c:Nat):Prop:=(97≤c∧c≤122)∨(k≠0∧48≤c∧c≤57)
def Zo (s:ByteArray):Prop:=(∀k (h:k < s.size),Xn k s[k].toNat)∧1≤s.size∧s.size≤6
def Qrn (c:Nat):Prop:=c=48∨c=49∨c=45
def QpX (s:ByteArray):Prop:=∀k (h:k < s.size),Qrn s[k].toNat
theorem W6 (n lo hi:Int)(w:World):Calls Tryz.prog 107 #[.int .i64 n, .int .i64 lo, .int .i64 hi] w (RetB (lo≤n∧n≤hi) w):=by
 by_cases a:lo≤n
 ·by_cases b:n≤hi
  all_goals
   go_enter Tryz.func107,Tryz.ntmps107
   go_wp2
   go_ret
   exact RetB.of (by simp; omega) (Qr _)
 ·go_enter Tryz.func107,Tryz.ntmps107
  go_wp2
  go_ret
  exact RetB.of (by simp; omega) (Qr _)
theorem KP (n lo hi:Int)(w:World):Calls Tryz.prog 215 #[.int .i64 n, .int .i64 lo, .int .i64 hi] w (RetB (lo≤n∧n≤hi) w):=by
 by_cases a:lo≤n
 ·by_cases b:n≤hi
  all_goals
   go_enter Tryz.func215,Tryz.ntmps215
   go_wp2
   go_ret
   exact RetB.of (by simp; omega) (Qr _)
 ·go_enter Tryz.func215,Tryz.ntmps215
  go_wp2
  go_ret
  exact RetB.of (by simp; omega) (Qr _)
theorem Qia {s:ByteArray}{k:Nat}(h:k < s.size)(a:¬Xn k s[k].toNat):¬Zo s:=fun b=>a (b.1 k h)
theorem QaI {s:ByteArray}{k:Nat}(h:k < s.size)(d:∀j (h:j < s.size),j < k→Xn j s[j].toNat)(a:Xn k s[k].toNat):∀j (h:j < s.size),j < k+1→Xn j s[j].toNat:=by
 intro j b c
 by_cases e:j=k
 ·subst e; exact a
 ·exact d j b (by omega)
theorem Qgv (s:ByteArray)(w:World)(hs:s.size≤maxLen):Calls Tryz.prog 349 #[.string s] w (RetB (Zo s) w):=by
  have hm:s.size≤9223372036854775807:=hs
  go_enter Tryz.func349,Tryz.ntmps349
  go_wp2
  go_loop [3] (fun i=>∃k:Nat,k≤s.size∧i= .int .i64 k∧∀j (h:j < s.size),j < k→Xn j s[j].toNat) (fun i=>s.size - (intOf i).toNat)
  case atStart=>exact ⟨0,aG _,rfl,fun j h h'=>absurd h' (by omega)⟩
  case round=>
    obtain ⟨k,hk,rfl,hyes⟩:=hrel
    have HY:=hid hyes
    clear hyes
    by_cases hlt:k < s.size
    · rcases (by omega : s[k].toNat < 48 ∨ (48 ≤ s[k].toNat ∧ s[k].toNat ≤ 57) ∨ (58 ≤ s[k].toNat ∧ s[k].toNat ≤ 96) ∨ (97 ≤ s[k].toNat ∧ s[k].toNat ≤ 122) ∨ 123 ≤ s[k].toNat) with h1 | ⟨h1, h2⟩ | ⟨h1, h2⟩ | ⟨h1, h2⟩ | h1
      all_goals first | have d0:decide ((97:Int)≤(s[k].toNat:Int))=true:=aL (by omega) | have d0:decide ((97:Int)≤(s[k].toNat:Int))=false:=aB (by omega)
      all_goals first | have d1:decide ((s[k].toNat:Int)≤122)=true:=aL (by omega) | have d1:decide ((s[k].toNat:Int)≤122)=false:=aB (by omega)
      all_goals first | have d2:decide ((48:Int)≤(s[k].toNat:Int))=true:=aL (by omega) | have d2:decide ((48:Int)≤(s[k].toNat:Int))=false:=aB (by omega)
      all_goals first | have d3:decide ((s[k].toNat:Int)≤57)=true:=aL (by omega) | have d3:decide ((s[k].toNat:Int)≤57)=false:=aB (by omega)
      all_goals first | have d4:decide ((s[k].toNat:Int) < 48)=true:=aL (by omega) | have d4:decide ((s[k].toNat:Int) < 48)=false:=aB (by omega)
      all_goals first | have d5:decide ((57:Int) < (s[k].toNat:Int))=true:=aL (by omega) | have d5:decide ((57:Int) < (s[k].toNat:Int))=false:=aB (by omega)
      all_goals rcases Nat.eq_zero_or_pos k with rfl | hk0
      all_goals try have hk1:((k:Int)==0)=false:=by simp; omega
      all_goals go_wp2
      all_goals first
        | (go_ret
           exact RetB.no (Qia hlt (by unfold Xn; omega)) (Qr _))
        | (go_round
           case rel=>exact ⟨_+1,by omega,by go_num,QaI hlt HY.out (by unfold Xn; omega)⟩
           case measure=>simp[intOf]; omega)
    · have : k = s.size := by omega
      subst this
      go_wp2_with (go_at_call 215; refine (KP _ _ _ _).mono ?_; rintro e w1 ⟨b,rfl,hb,hq1⟩)
      go_ret
      refine RetB.of (hb.trans ⟨fun h=>⟨fun j hj=>HY.out j hj hj,by omega,by omega⟩,fun h=>by have:=h.2; omega⟩) hq1
theorem Qgr (s:ByteArray)(w:World)(hs:s.size≤maxLen):Calls Tryz.prog 312 #[.string s] w (RetB (Zo s) w):=by
  have hm:s.size≤9223372036854775807:=hs
  go_enter Tryz.func312,Tryz.ntmps312
  go_wp2
  go_loopw [3] (fun i wr=>∃k:Nat,k≤s.size∧i= .int .i64 k∧(∀j (h:j < s.size),j < k→Xn j s[j].toNat)∧Nw w wr) (fun i _=>s.size - (intOf i).toNat)
  case atStart=>exact ⟨0,aG _,rfl,fun j h h'=>absurd h' (by omega),Qr _⟩
  case round=>
    obtain ⟨k,hk,rfl,hyes,hq⟩:=hrel
    have HY:=hid hyes
    clear hyes
    by_cases hlt:k < s.size
    · have hi0 : (0 : Int) ≤ k := by omega
      have hi1:(k:Int) < s.size:=by omega
      rcases (by omega:s[k].toNat < 48∨(48≤s[k].toNat∧s[k].toNat≤57)∨(58≤s[k].toNat∧s[k].toNat≤96)∨(97≤s[k].toNat∧s[k].toNat≤122)∨123≤s[k].toNat) with h1 | ⟨h1,h2⟩ | ⟨h1,h2⟩ | ⟨h1,h2⟩ | h1
      all_goals first | have d0:decide ((97:Int)≤(s[k].toNat:Int))=true:=aL (by omega) | have d0:decide ((97:Int)≤(s[k].toNat:Int))=false:=aB (by omega)
      all_goals first | have d1:decide ((s[k].toNat:Int)≤122)=true:=aL (by omega) | have d1:decide ((s[k].toNat:Int)≤122)=false:=aB (by omega)
      all_goals first | have d2:decide ((48:Int)≤(s[k].toNat:Int))=true:=aL (by omega) | have d2:decide ((48:Int)≤(s[k].toNat:Int))=false:=aB (by omega)
      all_goals first | have d3:decide ((s[k].toNat:Int)≤57)=true:=aL (by omega) | have d3:decide ((s[k].toNat:Int)≤57)=false:=aB (by omega)
      all_goals first | have d4:decide ((s[k].toNat:Int) < 48)=true:=aL (by omega) | have d4:decide ((s[k].toNat:Int) < 48)=false:=aB (by omega)
      all_goals first | have d5:decide ((57:Int) < (s[k].toNat:Int))=true:=aL (by omega) | have d5:decide ((57:Int) < (s[k].toNat:Int))=false:=aB (by omega)
      all_goals rcases Nat.eq_zero_or_pos k with rfl | hk0
      all_goals try have hk1:((k:Int)==0)=false:=by simp; omega
      all_goals go_wp2_with fail
      all_goals go_quiet (fail)
      all_goals go_wp2
      all_goals first
        | (go_ret
           exact RetB.no (Qia hlt (by unfold Xn; omega)) (hq.drewN _))
        | (go_roundw
           case rel=>exact ⟨_+1,by omega,by go_num,QaI hlt HY.out (by unfold Xn; omega),hq.drewN _⟩
           case measure=>simp[intOf]; omega)
    · have : k = s.size := by omega
      subst this
      go_wp2_with (go_at_call 107; refine (W6 _ _ _ _).mono ?_; rintro e w1 ⟨b,rfl,hb,hq1⟩)
      go_ret
      refine RetB.of (hb.trans ⟨fun h=>⟨fun j hj=>HY.out j hj hj,by omega,by omega⟩,fun h=>by have:=h.2; omega⟩) (hq.trans hq1)
theorem Ks {a b:Int}(h:a≠b):(a != b)=true:=by simpa using h
theorem H3 {a b:Int}(h:a=b):(a != b)=false:=by simpa using h
theorem Kr {a b:Int}(h:a=b):(a==b)=true:=by simpa using h
theorem Wd {a b:Int}(h:a≠b):(a==b)=false:=by simpa using h
end Go.Proofs.YtndabgcpnmeeoaaGreat
namespace Go.Proofs.YtndabgcpnmeeoaaGreat
set_option maxHeartbeats 4000000
set_option maxRecDepth 100000
open Go.RowKit
def SigOkAt (xs:List QM)(k:Nat):Prop:=∀x,xs[k]? =some x→Zo x.1∧(1≤x.2∧x.2≤3)∧∀j y,j < k→xs[j]? =some y→y.1≠x.1
def XN (xs:List QM):Prop:=(∀k,k < xs.length→SigOkAt xs k)∧1≤xs.length∧xs.length≤8
theorem SigOkAt.step {xs:List QM}{k:Nat}(h:∀j,j < k→SigOkAt xs j)(a:SigOkAt xs k):∀j,j < k+1→SigOkAt xs j:=by
 intro j b
 by_cases e:j=k
 ·subst e; exact a
 ·exact h j (by omega)
theorem QaF (v:Value)(xs:List QM)(w:World)(hr:Rep (.sl 77 ZG) w [v] xs):Calls Tryz.prog 214 #[v] w (RetB (XN xs) w):=by
 obtain ⟨A,c,rfl,hl,hc⟩:=hr.slv
 have hm:xs.length≤9223372036854775807:=by unfold maxLen at hc; omega
 go_enter Tryz.func214,Tryz.ntmps214
 go_wp2
 go_loopw [9] (fun i wr=>∃k:Nat,k≤xs.length∧i= .int .i64 k∧(∀j,j < k→SigOkAt xs j)∧Nw w wr) (fun i _=>xs.length - (intOf i).toNat)
 case atStart=>exact ⟨0,aG _,rfl,fun j h=>absurd h (by omega),Qr _⟩
 case round=>
  obtain ⟨wo,rfl⟩:∃wo:World,wo=wr:=⟨_,rfl⟩
  obtain ⟨k,hk,rfl,hyes,hq⟩:=hrel
  have HY:=hid hyes
  clear hyes
  by_cases hlt:k < xs.length
  ·obtain ⟨b,o,v0,v1,rfl,hx,c0,c1⟩:=(hr.nw hq).at2 rfl (ae hlt)
   have HX:=hid (ae hlt)
   generalize hxk:xs[k]=x at*
   clear hxk
   obtain ⟨s,n⟩:=x
   obtain ⟨r0,r1⟩:=hx.open2 rfl
   obtain ⟨rfl,hs⟩:=r0.str_
   obtain ⟨rfl, -⟩:=r1.int_
   have Hs:=hid hs
   clear hx r0 r1 hs
   go_wp2_with fail
   refine (Qgv s _ Hs.out).mono ?_
   rintro e w1 ⟨b1,rfl,hb1,hq1⟩
   obtain ⟨hc1,hf1⟩:=hq1.cells
   have hz1:wo.heap.size < w1.heap.size:=by (have hz2:=hq1.size; simp at hz2; omega)
   cases b1 with
   | false=>
    have HB1:=hid (RetB.not hb1)
    clear hb1
    go_wp2
    go_ret
    exact RetB.no (fun h=>HB1.out (h.1 k hlt _ HX.out).1) (by (repeat (first | with_reducible exact Qr _ | with_reducible assumption | with_reducible apply Nw.alloc | with_reducible apply Nw.drew | with_reducible apply Nw.drewN | (with_reducible refine Qm ?_ ?_; focus (first | (simp; done) | (simp; omega))) | with_reducible refine Qt ‹_› ?_)))
   | true=>
    have HB1:=hid (hb1.1 rfl)
    clear hb1
    go_wp2_with fail
    refine (KP n _ _ _).mono ?_
    rintro e w2 ⟨b2,rfl,hb2,hq2⟩
    obtain ⟨hc2,hf2⟩:=hq2.cells
    have hz3:wo.heap.size < w2.heap.size:=by (have hz2:=hq2.size; omega)
    cases b2 with
    | false=>
     have HB2:=hid (RetB.not hb2)
     clear hb2
     go_wp2
     go_ret
     exact RetB.no (fun h=>HB2.out (h.1 k hlt _ HX.out).2.1) (by (repeat (first | with_reducible exact Qr _ | with_reducible assumption | with_reducible apply Nw.alloc | with_reducible apply Nw.drew | with_reducible apply Nw.drewN | (with_reducible refine Qm ?_ ?_; focus (first | (simp; done) | (simp; omega))) | with_reducible refine Qt ‹_› ?_)))
    | true=>
     have HB2:=hid (hb2.1 rfl)
     clear hb2
     have hbx:w2.cell? ⟨wo.heap.size,0,none⟩=some (.string s):=by go_simp
     have hN2:Nw w w2:=by (repeat (first | with_reducible exact Qr _ | with_reducible assumption | with_reducible apply Nw.alloc | with_reducible apply Nw.drew | with_reducible apply Nw.drewN | (with_reducible refine Qm ?_ ?_; focus (first | (simp; done) | (simp; omega))) | with_reducible refine Qt ‹_› ?_))
     have hk9:k≤c:=by omega
     clear hc1 hf1 hc2 hf2 c0 c1 hq1 hq2
     go_wp2
     go_loopw [28] (fun i wi=>∃m:Nat,m≤k∧i= .int .i64 m∧(∀j y,j < m→xs[j]? =some y→y.1≠s)∧Nw w2 wi) (fun i _=>k - (intOf i).toNat)
     case atStart=>exact ⟨0,aG _,rfl,fun j y h=>absurd h (by omega),Qr _⟩
     case round=>
      obtain ⟨m,hm2,rfl,hno,hqi⟩:=hrel
      have HN:=hid hno
      clear hno
      obtain ⟨hci,hfi⟩:=hqi.cells
      have hzi:wo.heap.size < wr.heap.size:=by have:=hqi.size; omega
      by_cases hlm:m < k
      ·obtain ⟨b',o',u0,u1,e',hy,d0,d1⟩:=((hr.nw hN2).nw hqi).at2 rfl (ae (show m < xs.length by omega))
       have HYm:=hid (ae (show m < xs.length by omega))
       generalize hym:xs[m]=y at*
       clear hym
       obtain ⟨t,n'⟩:=y
       obtain ⟨s0,s1⟩:=hy.open2 rfl
       obtain ⟨rfl, -⟩:=s0.str_
       obtain ⟨rfl, -⟩:=s1.int_
       simp only[bi,Addr.mk.injEq,and_true] at e'
       obtain ⟨rfl,rfl⟩:=e'
       clear hy s0 s1
       go_wp2
       ·rename_i he
        go_ret
        exact RetB.no (fun h=>(h.1 k hlt _ HX.out).2.2 m _ hlm HYm.out (Qts he).symm) (by (repeat (first | with_reducible exact Qr _ | with_reducible assumption | with_reducible apply Nw.alloc | with_reducible apply Nw.drew | with_reducible apply Nw.drewN | (with_reducible refine Qm ?_ ?_; focus (first | (simp; done) | (simp; omega))) | with_reducible refine Qt ‹_› ?_)))
       ·go_roundw
        case rel=>
         rename_i he
         exact ⟨m+1,by omega,by go_num,fun j y hj hy=>by
          by_cases e:j=m
          ·subst e
           rw[HYm.out] at hy
           cases hy
           exact fun e=>Qwx he e.symm
          ·exact HN.out j y (by omega) hy,by (repeat (first | with_reducible exact Qr _ | with_reducible assumption | with_reducible apply Nw.alloc | with_reducible apply Nw.drew | with_reducible apply Nw.drewN | (with_reducible refine Qm ?_ ?_; focus (first | (simp; done) | (simp; omega))) | with_reducible refine Qt ‹_› ?_))⟩
        case measure=>simp[intOf]; omega
      ·go_wp2
       go_roundw
       case rel=>exact ⟨k+1,by omega,by go_num,SigOkAt.step HY.out (fun x hx=>by
        rw[HX.out] at hx
        cases hx
        exact ⟨HB1.out,HB2.out,fun j y hj hy=>HN.out j y (by omega) hy⟩),by (repeat (first | with_reducible exact Qr _ | with_reducible assumption | with_reducible apply Nw.alloc | with_reducible apply Nw.drew | with_reducible apply Nw.drewN | (with_reducible refine Qm ?_ ?_; focus (first | (simp; done) | (simp; omega))) | with_reducible refine Qt ‹_› ?_))⟩
       case measure=>simp[intOf]; omega
  ·have:k=xs.length:=by omega
   subst this
   go_wp2_with (go_at_call 215; refine (KP _ _ _ _).mono ?_; rintro e w1 ⟨b,rfl,hb,hq1⟩)
   go_ret
   exact RetB.of (hb.trans ⟨fun h=>⟨HY.out,by omega,by omega⟩,fun h=>by have:=h.2; omega⟩) (hq.trans hq1)
theorem Qa9:Qh Tryz.prog 314:=fun a W=>Qc Tryz.func314 (by kernel_rfl) rfl a W
theorem Qd2 (e f:Value)(x:QM)(g:Nat)(s:ByteArray)(W:World)(b:Rep ZG W [e,f] x)(i:W.cell? ⟨g,0,none⟩=some (.string s)):
 Calls Tryz.prog 314 #[.agg #[e,f], .pointer (some ⟨g,0,none⟩)] W (RetB (x.1=s) W):=by
 obtain ⟨t,n⟩:=x
 obtain ⟨c,d⟩:=b.open2 rfl
 obtain ⟨rfl, -⟩:=c.str_
 obtain ⟨rfl, -⟩:=d.int_
 have j:g < W.heap.size:=cM W _ i
 clear b c d
 by_cases h:t=s
 ·have a:=Qtu h
  have H:=hid h
  clear h
  go_enter Tryz.func314,Tryz.ntmps314
  go_wp2
  go_ret
  exact RetB.of (by simp only[a,H.out]) ((Qr _).alloc _)
 ·have a:=Qtt h
  have H:=hid h
  clear h
  go_enter Tryz.func314,Tryz.ntmps314
  go_wp2
  go_ret
  exact RetB.of (by simp only[a,H.out]; simp) ((Qr _).alloc _)
theorem Hi (v:Value)(xs:List QM)(w:World)(hr:Rep (.sl 77 ZG) w [v] xs):Calls Tryz.prog 176 #[v] w (RetB (XN xs) w):=by
 obtain ⟨A,c,rfl,hl,hc⟩:=hr.slv
 have hm:xs.length≤9223372036854775807:=by unfold maxLen at hc; omega
 go_enter Tryz.func176,Tryz.ntmps176
 go_wp2
 go_loopw [7] (fun i wr=>∃k:Nat,k≤xs.length∧i= .int .i64 k∧(∀j,j < k→SigOkAt xs j)∧Nw w wr) (fun i _=>xs.length - (intOf i).toNat)
 case atStart=>exact ⟨0,aG _,rfl,fun j h=>absurd h (by omega),Qr _⟩
 case round=>
  obtain ⟨wo,rfl⟩:∃wo:World,wo=wr:=⟨_,rfl⟩
  obtain ⟨k,hk,rfl,hyes,hq⟩:=hrel
  have HY:=hid hyes
  clear hyes
  by_cases hlt:k < xs.length
  ·obtain ⟨b,o,v0,v1,rfl,hx,c0,c1⟩:=(hr.nw hq).at2 rfl (ae hlt)
   have HX:=hid (ae hlt)
   generalize hxk:xs[k]=x at*
   clear hxk
   obtain ⟨s,n⟩:=x
   obtain ⟨r0,r1⟩:=hx.open2 rfl
   obtain ⟨rfl,hs⟩:=r0.str_
   obtain ⟨rfl, -⟩:=r1.int_
   have Hs:=hid hs
   clear hx r0 r1 hs
   go_wp2_with fail
   refine (Qgr s _ Hs.out).mono ?_
   rintro e w1 ⟨b1,rfl,hb1,hq1⟩
   obtain ⟨hc1,hf1⟩:=hq1.cells
   have hz1:wo.heap.size < w1.heap.size:=by (have hz2:=hq1.size; simp at hz2; omega)
   cases b1 with
   | false=>
    have HB1:=hid (RetB.not hb1)
    clear hb1
    go_wp2
    go_ret
    exact RetB.no (fun h=>HB1.out (h.1 k hlt _ HX.out).1) (by (repeat (first | with_reducible exact Qr _ | with_reducible assumption | with_reducible apply Nw.alloc | with_reducible apply Nw.drew | with_reducible apply Nw.drewN | (with_reducible refine Qm ?_ ?_; focus (first | (simp; done) | (simp; omega))) | with_reducible refine Qt ‹_› ?_)))
   | true=>
    have HB1:=hid (hb1.1 rfl)
    clear hb1
    go_wp2_with fail
    refine (W6 n _ _ _).mono ?_
    rintro e w2 ⟨b2,rfl,hb2,hq2⟩
    obtain ⟨hc2,hf2⟩:=hq2.cells
    have hz3:wo.heap.size < w2.heap.size:=by (have hz2:=hq2.size; omega)
    cases b2 with
    | false=>
     have HB2:=hid (RetB.not hb2)
     clear hb2
     go_wp2
     go_ret
     exact RetB.no (fun h=>HB2.out (h.1 k hlt _ HX.out).2.1) (by (repeat (first | with_reducible exact Qr _ | with_reducible assumption | with_reducible apply Nw.alloc | with_reducible apply Nw.drew | with_reducible apply Nw.drewN | (with_reducible refine Qm ?_ ?_; focus (first | (simp; done) | (simp; omega))) | with_reducible refine Qt ‹_› ?_)))
    | true=>
     have HB2:=hid (hb2.1 rfl)
     clear hb2
     have hbx:w2.cell? ⟨wo.heap.size,0,none⟩=some (.string s):=by go_simp
     have hN2:Nw w w2:=by (repeat (first | with_reducible exact Qr _ | with_reducible assumption | with_reducible apply Nw.alloc | with_reducible apply Nw.drew | with_reducible apply Nw.drewN | (with_reducible refine Qm ?_ ?_; focus (first | (simp; done) | (simp; omega))) | with_reducible refine Qt ‹_› ?_))
     have hk9:k≤c:=by omega
     have HBX:=hid hbx
     clear hc1 hf1 hc2 hf2 c0 c1 hq1 hq2 hbx
     go_wp2_with fail
     refine (Je (fun y=>y.1=s) (xs.take k) _ _ _ _ ((hr.nw hN2).cut hk c hk9 hc) Qa9 ?_).mono ?_
     ·intro i y W u0 u1 hi hqW hy
      exact Qd2 u0 u1 y _ s W hy (by rw[(hqW.cells).1 _ _ hz3]; exact HBX.out)
     ·rintro e w3 ⟨b3,rfl,hb3,hq3⟩
      cases b3 with
      | false=>
       have HB3:=hid (RetB.not hb3)
       clear hb3
       go_wp2
       go_roundw
       case rel=>exact ⟨k+1,by omega,by go_num,SigOkAt.step HY.out (fun x hx=>by
        rw[HX.out] at hx
        cases hx
        refine ⟨HB1.out,HB2.out,fun j y hj hy e=>HB3.out ⟨y, ?_,e⟩⟩
        exact ah (i:=j) (by rw[bc,if_pos hj]; exact hy)),by (repeat (first | with_reducible exact Qr _ | with_reducible assumption | with_reducible apply Nw.alloc | with_reducible apply Nw.drew | with_reducible apply Nw.drewN | (with_reducible refine Qm ?_ ?_; focus (first | (simp; done) | (simp; omega))) | with_reducible refine Qt ‹_› ?_))⟩
       case measure=>simp[intOf]; omega
      | true=>
       have HB3:=hid (hb3.1 rfl)
       clear hb3
       go_wp2
       go_ret
       refine RetB.no (fun h=> ?_) (by (repeat (first | with_reducible exact Qr _ | with_reducible assumption | with_reducible apply Nw.alloc | with_reducible apply Nw.drew | with_reducible apply Nw.drewN | (with_reducible refine Qm ?_ ?_; focus (first | (simp; done) | (simp; omega))) | with_reducible refine Qt ‹_› ?_)))
       obtain ⟨y,hy,e⟩:=HB3.out
       obtain ⟨j,hj⟩:=aN.1 hy
       rw[bc] at hj
       split at hj
       ·exact (h.1 k hlt _ HX.out).2.2 j y ‹_› hj e
       ·cases hj
  ·have:k=xs.length:=by omega
   subst this
   go_wp2_with (go_at_call 107; refine (W6 _ _ _ _).mono ?_; rintro e w1 ⟨b,rfl,hb,hq1⟩)
   go_ret
   exact RetB.of (hb.trans ⟨fun h=>⟨HY.out,by omega,by omega⟩,fun h=>by have:=h.2; omega⟩) (hq.trans hq1)
end Go.Proofs.YtndabgcpnmeeoaaGreat
namespace Go.Proofs.YtndabgcpnmeeoaaGreat
set_option maxHeartbeats 4000000
set_option maxRecDepth 100000
open Go.RowKit
def Qxz (n:Int)(l:List ByteArray):Prop:=(∀c∈l,QpX c∧(c.size:Int)=n)∧(1≤n∧n≤8)∧l.length≤60
end Go.Proofs.YtndabgcpnmeeoaaGreat
namespace Go.Proofs.YtndabgcpnmeeoaaGreat
set_option maxHeartbeats 4000000
set_option maxRecDepth 100000
open Go.RowKit
theorem Qg5 (w:World)(g:Nat)(c:Array Value)(T:TypeId)(a:Nat×Nat)(i:Nat)(h:w.heap[g]? =some (.cells c T a)):w.cell? ⟨g,i,none⟩=c[i]? :=by
 simp only[World.cell?,h]; rfl
theorem JC (w:World)(c1:Array Value)(b:TypeId):∃a,a=w.alloc (.cells c1 b)∧Nw w a∧(∀i,a.cell? ⟨w.heap.size,i,none⟩=c1[i]?)∧a.heap.size=w.heap.size+1:=
 ⟨_,rfl,(Qr _).alloc _,fun i=>Qg5 _ _ _ _ _ i (heap_alloc_new w _),by simp⟩
def QxG (n:Int)(l:List QwP):Prop:=∀p∈l,0≤p.1∧p.1≤n - 1
end Go.Proofs.YtndabgcpnmeeoaaGreat
