/- The measures of the laws: what each 'sz..' returns. -/
import Derived.Test.YtndabgcpnmeeoaaGreatPOwn
import Derived.Test.YtndabgcpnmeeoaaGreatProg
set_option linter.unusedSimpArgs false
set_option linter.unusedVariables false
set_option linter.unusedSectionVars false
namespace Go.Proofs.YtndabgcpnmeeoaaGreat
set_option maxHeartbeats 4000000
set_option maxRecDepth 100000
open Go.RowKit
theorem Kj {E:TypeId}{e:Ty}(xs:List e.Den):Ty.tot (.sl E e) xs=xs.length+(xs.map e.tot).sum:=rfl
def CutTo (l:Int)(t:Nat)(l':Int):Prop:=(l < t∧l'= -1)∨(t≤l∧l'=l - t)
theorem CutTo.le {l a:Int}{t:Nat}(h:CutTo l t a)(h0:0≤l)(b:l≤1048576): -1≤a∧a≤1048576:=by unfold CutTo at h; omega
def SzPost (w:World)(l:Int)(t:Nat)(e:Ending)(w':World):Prop:=∃l',e= .returned (.int .i64 l')∧CutTo l t l'∧Nw w w'
theorem QjG (e f:Value)(x:QM)(left:Int)(w:World)(g:Rep ZF w [e,f] x)(h0:0≤left)(l:left≤1048576):
 Calls Tryz.prog 282 #[.agg #[e,f], .int .i64 left] w (SzPost w left (Ty.tot ZF x)):=by
 obtain ⟨b,k⟩:=x
 obtain ⟨i,q0⟩:=g.pr1 rfl
 have j:=q0
 obtain ⟨rfl,a⟩:=i.str_
 have a:b.size≤9223372036854775807:=a
 obtain ⟨rfl,c,d⟩:=j.int_
 have h:Ty.tot ZF (b,k)=b.size+(0):=rfl
 rw[h]
 go_enter Tryz.func282,Tryz.ntmps282
 go_wp2
 all_goals
  go_ret
  (try unfold CutTo at*)
  exact ⟨_,rfl,by unfold CutTo; omega,by (repeat (first | with_reducible exact Qr _ | with_reducible assumption | with_reducible apply Nw.alloc | with_reducible apply Nw.drew | with_reducible apply Nw.drewN | (with_reducible refine Qm ?_ ?_; focus (first | (simp; done) | (simp; omega))) | with_reducible refine Qt ‹_› ?_))⟩
theorem Qho (v:Value)(xs:List (QM))(left:Int)(w:World)(q:Rep (.sl 311 ZF) w [v] xs)(h0:0≤left)(C:left≤1048576):
 Calls Tryz.prog 146 #[v, .int .i64 left] w (SzPost w left (Ty.tot (.sl 311 ZF) xs)):=by
 obtain ⟨A,c,rfl,p,x⟩:=q.slv
 have G:xs.length≤9223372036854775807:=by unfold maxLen at x; omega
 go_enter Tryz.func146,Tryz.ntmps146
 go_wp2
 ·go_ret
  exact ⟨_,rfl,by unfold CutTo; rw[Kj]; omega,Qr _⟩
 ·rename_i f
  have f:0≤left - xs.length:=by omega
  go_loopw [1,5] (fun l i z=>∃k:Nat,k≤xs.length∧i= .int .i64 k∧l= .int .i64 (left - xs.length - ((xs.take k).map (Ty.tot ZF)).sum)∧0≤left - xs.length - ((xs.take k).map (Ty.tot ZF)).sum∧Nw w z)
   (fun _ i _=>xs.length - (intOf i).toNat)
  case atStart=>exact ⟨0,aG _,rfl,by simp,by simpa using f,Qr _⟩
  case round=>
   obtain ⟨k,F,rfl,rfl,p,m⟩:=hrel
   have D:=Vy (Ty.tot ZF) xs k
   by_cases g:k < xs.length
   ·obtain ⟨b,o,I,J,rfl,y,B,c1⟩:=(q.nw m).at2 rfl (ae g)
    have r:=Ki (Ty.tot ZF) xs k g
    generalize t:((xs.take k).map (Ty.tot ZF)).sum=S at*
    clear t
    generalize d:((xs.take (k+1)).map (Ty.tot ZF)).sum=S' at*
    have n:Hid (S'=S+Ty.tot ZF xs[k]):=r
    clear r
    go_wp2_with (go_at_call 282; refine (QjG _ _ _ _ _ (by exact y) (by omega) (by omega)).mono ?_; rintro e K ⟨H,rfl,a,j⟩; have u:=a.le (by omega) (by omega))
    ·rename_i h
     have s:=n.out
     have E:=Vy (Ty.tot ZF) xs (k+1)
     unfold CutTo at a
     go_ret
     exact ⟨_,rfl,by unfold CutTo; rw[Kj]; omega,m.trans j⟩
    ·go_roundw
     case rel=>
      rename_i h
      have s:=n.out
      unfold CutTo at a
      exact ⟨k+1,by omega,by go_num,by rw[d]; simp; omega,by rw[d]; omega,m.trans j⟩
     case measure=>simp[intOf]; omega
   ·go_wp2
    go_ret
    have:k=xs.length:=by omega
    subst this
    rw[cZ] at p ⊢
    exact ⟨_,rfl,by unfold CutTo; rw[Kj]; omega,m⟩
theorem Qon (v:Value)(xs:List (Int))(left:Int)(w:World)(b:Rep Qz w [v] xs)(h0:0≤left)(e:left≤1048576):
 Calls Tryz.prog 490 #[v, .int .i64 left] w (SzPost w left (Ty.tot Qz xs)):=by
 obtain ⟨A,c,rfl,f,a⟩:=b.slv
 have g:xs.length≤9223372036854775807:=by unfold maxLen at a; omega
 have d:Ty.tot Qz xs=xs.length:=by rw[Kj,VW xs (Ty.tot .int) (fun _=>rfl)]; rfl
 rw[d]
 go_enter Tryz.func490,Tryz.ntmps490
 go_wp2
 all_goals
  go_ret
  exact ⟨_,rfl,by unfold CutTo; omega,Qr _⟩
theorem QdA (d f:Value)(x:QG)(left:Int)(w:World)(l:Rep QV w [d,f] x)(h0:0≤left)(r:left≤1048576):
 Calls Tryz.prog 399 #[.agg #[d,f], .int .i64 left] w (SzPost w left (Ty.tot QV x)):=by
 obtain ⟨g,h⟩:=x
 obtain ⟨o,q0⟩:=l.pr1 rfl
 have p:=q0
 have m:Ty.tot QV (g,h)=Ty.tot Qz g+(Ty.tot Qz h):=rfl
 rw[m]
 go_enter Tryz.func399,Tryz.ntmps399
 go_wp2_with (first | (go_at_call 490; refine (Qon _ _ _ _ (by first | exact o.nw (by (repeat (first | with_reducible exact Qr _ | with_reducible assumption | with_reducible apply Nw.alloc | with_reducible apply Nw.drew | with_reducible apply Nw.drewN | (with_reducible refine Qm ?_ ?_; focus (first | (simp; done) | (simp; omega))) | with_reducible refine Qt ‹_› ?_))) | exact p.nw (by (repeat (first | with_reducible exact Qr _ | with_reducible assumption | with_reducible apply Nw.alloc | with_reducible apply Nw.drew | with_reducible apply Nw.drewN | (with_reducible refine Qm ?_ ?_; focus (first | (simp; done) | (simp; omega))) | with_reducible refine Qt ‹_› ?_)))) (by omega) (by omega)).mono ?_; rintro e q ⟨s,rfl,b,a⟩; have i:=b.le (by omega) (by omega); obtain ⟨j,k⟩:=a.cells; have n:w.heap.size < q.heap.size:=by (have c:=a.size; (try simp at c); omega)))
 all_goals
  go_ret
  (try unfold CutTo at*)
  exact ⟨_,rfl,by unfold CutTo; omega,by (repeat (first | with_reducible exact Qr _ | with_reducible assumption | with_reducible apply Nw.alloc | with_reducible apply Nw.drew | with_reducible apply Nw.drewN | (with_reducible refine Qm ?_ ?_; focus (first | (simp; done) | (simp; omega))) | with_reducible refine Qt ‹_› ?_))⟩
theorem QcH (v:Value)(xs:List (QG))(left:Int)(w:World)(q:Rep (.sl 424 QV) w [v] xs)(h0:0≤left)(C:left≤1048576):
 Calls Tryz.prog 281 #[v, .int .i64 left] w (SzPost w left (Ty.tot (.sl 424 QV) xs)):=by
 obtain ⟨A,c,rfl,p,x⟩:=q.slv
 have G:xs.length≤9223372036854775807:=by unfold maxLen at x; omega
 go_enter Tryz.func281,Tryz.ntmps281
 go_wp2
 ·go_ret
  exact ⟨_,rfl,by unfold CutTo; rw[Kj]; omega,Qr _⟩
 ·rename_i f
  have f:0≤left - xs.length:=by omega
  go_loopw [1,5] (fun l i z=>∃k:Nat,k≤xs.length∧i= .int .i64 k∧l= .int .i64 (left - xs.length - ((xs.take k).map (Ty.tot QV)).sum)∧0≤left - xs.length - ((xs.take k).map (Ty.tot QV)).sum∧Nw w z)
   (fun _ i _=>xs.length - (intOf i).toNat)
  case atStart=>exact ⟨0,aG _,rfl,by simp,by simpa using f,Qr _⟩
  case round=>
   obtain ⟨k,F,rfl,rfl,p,m⟩:=hrel
   have D:=Vy (Ty.tot QV) xs k
   by_cases g:k < xs.length
   ·obtain ⟨b,o,I,J,rfl,y,B,c1⟩:=(q.nw m).at2 rfl (ae g)
    have r:=Ki (Ty.tot QV) xs k g
    generalize t:((xs.take k).map (Ty.tot QV)).sum=S at*
    clear t
    generalize d:((xs.take (k+1)).map (Ty.tot QV)).sum=S' at*
    have n:Hid (S'=S+Ty.tot QV xs[k]):=r
    clear r
    go_wp2_with (go_at_call 399; refine (QdA _ _ _ _ _ (by exact y) (by omega) (by omega)).mono ?_; rintro e K ⟨H,rfl,a,j⟩; have u:=a.le (by omega) (by omega))
    ·rename_i h
     have s:=n.out
     have E:=Vy (Ty.tot QV) xs (k+1)
     unfold CutTo at a
     go_ret
     exact ⟨_,rfl,by unfold CutTo; rw[Kj]; omega,m.trans j⟩
    ·go_roundw
     case rel=>
      rename_i h
      have s:=n.out
      unfold CutTo at a
      exact ⟨k+1,by omega,by go_num,by rw[d]; simp; omega,by rw[d]; omega,m.trans j⟩
     case measure=>simp[intOf]; omega
   ·go_wp2
    go_ret
    have:k=xs.length:=by omega
    subst this
    rw[cZ] at p ⊢
    exact ⟨_,rfl,by unfold CutTo; rw[Kj]; omega,m⟩
theorem Qra (g h:Value)(x:V8)(left:Int)(w:World)(m:Rep Qhd w [g,h] x)(h0:0≤left)(t:left≤1048576):
 Calls Tryz.prog 145 #[.agg #[g,h], .int .i64 left] w (SzPost w left (Ty.tot Qhd x)):=by
 obtain ⟨s,i⟩:=x
 obtain ⟨p,q0⟩:=m.pr1 rfl
 have q:=q0
 obtain ⟨rfl,d,f⟩:=p.int_
 have n:Ty.tot Qhd (s,i)=0+(Ty.tot (.sl 424 QV) i):=rfl
 rw[n]
 go_enter Tryz.func145,Tryz.ntmps145
 go_wp2_with (first | (go_at_call 281; refine (QcH _ _ _ _ (by first | exact q.nw (by (repeat (first | with_reducible exact Qr _ | with_reducible assumption | with_reducible apply Nw.alloc | with_reducible apply Nw.drew | with_reducible apply Nw.drewN | (with_reducible refine Qm ?_ ?_; focus (first | (simp; done) | (simp; omega))) | with_reducible refine Qt ‹_› ?_)))) (by omega) (by omega)).mono ?_; rintro e r ⟨u,rfl,b,a⟩; have j:=b.le (by omega) (by omega); obtain ⟨k,l⟩:=a.cells; have o:w.heap.size < r.heap.size:=by (have c:=a.size; (try simp at c); omega)))
 all_goals
  go_ret
  (try unfold CutTo at*)
  exact ⟨_,rfl,by unfold CutTo; omega,by (repeat (first | with_reducible exact Qr _ | with_reducible assumption | with_reducible apply Nw.alloc | with_reducible apply Nw.drew | with_reducible apply Nw.drewN | (with_reducible refine Qm ?_ ?_; focus (first | (simp; done) | (simp; omega))) | with_reducible refine Qt ‹_› ?_))⟩
theorem QjF (v:Value)(xs:List (Zl))(left:Int)(w:World)(b:Rep (.sl 323 X8) w [v] xs)(h0:0≤left)(e:left≤1048576):
 Calls Tryz.prog 147 #[v, .int .i64 left] w (SzPost w left (Ty.tot (.sl 323 X8) xs)):=by
 obtain ⟨A,c,rfl,f,a⟩:=b.slv
 have g:xs.length≤9223372036854775807:=by unfold maxLen at a; omega
 have d:Ty.tot (.sl 323 X8) xs=xs.length:=by rw[Kj,VW xs (Ty.tot X8) (fun _=>rfl)]; rfl
 rw[d]
 go_enter Tryz.func147,Tryz.ntmps147
 go_wp2
 all_goals
  go_ret
  exact ⟨_,rfl,by unfold CutTo; omega,Qr _⟩
theorem Qrb (m n o p q:Value)(x:Yz)(left:Int)(w:World)(u:Rep Qco w [m,n,o,p,q] x)(h0:0≤left)(E:left≤1048576):
 Calls Tryz.prog 41 #[.agg #[m,n,o,p,q], .int .i64 left] w (SzPost w left (Ty.tot Qco x)):=by
 obtain ⟨r,s,t,k⟩:=x
 obtain ⟨A,q0⟩:=u.pr2 rfl
 obtain ⟨B,y⟩:=q0.pr1 rfl
 obtain ⟨C,z⟩:=y.pr1 rfl
 have D:=z
 obtain ⟨rfl,h⟩:=D.str_
 have h:k.size≤9223372036854775807:=h
 have v:Ty.tot Qco (r,s,t,k)=Ty.tot Qhd r+(Ty.tot (.sl 311 ZF) s+(Ty.tot (.sl 323 X8) t+(k.size))):=rfl
 rw[v]
 go_enter Tryz.func41,Tryz.ntmps41
 go_wp2_with (first | (go_at_call 145; refine (Qra _ _ _ _ _ (by first | exact A.nw (by (repeat (first | with_reducible exact Qr _ | with_reducible assumption | with_reducible apply Nw.alloc | with_reducible apply Nw.drew | with_reducible apply Nw.drewN | (with_reducible refine Qm ?_ ?_; focus (first | (simp; done) | (simp; omega))) | with_reducible refine Qt ‹_› ?_)))) (by omega) (by omega)).mono ?_; rintro e j ⟨l,rfl,b,a⟩; have d:=b.le (by omega) (by omega); obtain ⟨f,g⟩:=a.cells; have i:w.heap.size < j.heap.size:=by (have c:=a.size; (try simp at c); omega)) | (go_at_call 146; refine (Qho _ _ _ _ (by first | exact B.nw (by (repeat (first | with_reducible exact Qr _ | with_reducible assumption | with_reducible apply Nw.alloc | with_reducible apply Nw.drew | with_reducible apply Nw.drewN | (with_reducible refine Qm ?_ ?_; focus (first | (simp; done) | (simp; omega))) | with_reducible refine Qt ‹_› ?_)))) (by omega) (by omega)).mono ?_; rintro e j ⟨l,rfl,b,a⟩; have d:=b.le (by omega) (by omega); obtain ⟨f,g⟩:=a.cells; have i:w.heap.size < j.heap.size:=by (have c:=a.size; (try simp at c); omega)) | (go_at_call 147; refine (QjF _ _ _ _ (by first | exact C.nw (by (repeat (first | with_reducible exact Qr _ | with_reducible assumption | with_reducible apply Nw.alloc | with_reducible apply Nw.drew | with_reducible apply Nw.drewN | (with_reducible refine Qm ?_ ?_; focus (first | (simp; done) | (simp; omega))) | with_reducible refine Qt ‹_› ?_)))) (by omega) (by omega)).mono ?_; rintro e j ⟨l,rfl,b,a⟩; have d:=b.le (by omega) (by omega); obtain ⟨f,g⟩:=a.cells; have i:w.heap.size < j.heap.size:=by (have c:=a.size; (try simp at c); omega)))
 all_goals
  go_ret
  (try unfold CutTo at*)
  exact ⟨_,rfl,by unfold CutTo; omega,by (repeat (first | with_reducible exact Qr _ | with_reducible assumption | with_reducible apply Nw.alloc | with_reducible apply Nw.drew | with_reducible apply Nw.drewN | (with_reducible refine Qm ?_ ?_; focus (first | (simp; done) | (simp; omega))) | with_reducible refine Qt ‹_› ?_))⟩
end Go.Proofs.YtndabgcpnmeeoaaGreat
namespace Go.Proofs.YtndabgcpnmeeoaaGreat
set_option maxHeartbeats 4000000
set_option maxRecDepth 100000
open Go.RowKit
theorem QjK {e:Ty}{E:TypeId}{xs:List e.Den}{k:Nat}(h:k < xs.length):Ty.tot e xs[k]≤Ty.tot (.sl E e) xs:=by
 rw[Kj]
 have a:=Ki (Ty.tot e) xs k h
 have b:=Vy (Ty.tot e) xs (k+1)
 omega
theorem QeJ {e:Ty}{E:TypeId}(xs:List e.Den):xs.length≤Ty.tot (.sl E e) xs:=by rw[Kj]; omega
theorem QjJ (i j:Value)(x:QM)(w:World)(k:Rep ZF w [i,j] x)(m:Ty.tot ZF x≤1048576):
 Calls Tryz.prog 289 #[.agg #[i,j]] w (QtS ZG w x):=by
 obtain ⟨d,g⟩:=x
 obtain ⟨n,q0⟩:=k.pr1 rfl
 have o:=q0
 obtain ⟨rfl,c⟩:=n.str_
 have c:d.size≤9223372036854775807:=c
 obtain ⟨rfl,e,f⟩:=o.int_
 have h:Ty.tot ZF (d,g)=d.size+(0):=rfl
 rw[h] at m
 clear h
 go_enter Tryz.func289,Tryz.ntmps289
 skip
 go_wp2
 refine bodyPost_ret (v:= .agg #[.string d, .int .i64 g]) (by simp only[results,Tryz.results289]; go_simp) rfl ⟨_,_,rfl, ?_, ?_⟩
 ·refine Frs.mono (B:=w.heap.size) (U:=w.heap.size) ?_ (aJ _) (by simp <;> omega)
  (refine Ub (a:= .str) (b:= .int) (l:=[.string d]) (r:=[.int .i64 g]) (x:=d) (y:=(g)) (M:=w.heap.size) ?_ ?_ (by omega) (by omega); (focus (exact Frs.str (x:=d) c)); (exact Frs.int (x:=g) ⟨e,f⟩))
 ·(repeat (first | with_reducible exact Qr _ | with_reducible assumption | with_reducible apply Nw.alloc | with_reducible apply Nw.drew | with_reducible apply Nw.drewN | (with_reducible refine Qm ?_ ?_; focus (first | (simp; done) | (simp; omega))) | with_reducible refine Qt ‹_› ?_))
theorem QnP:(Tryz.prog.info? 77).map (fun i=>(i.zero,i.size,i.bytes))=some (some (.agg #[.string ByteArray.empty, .int .i64 0]),2,24):=by kernel_rfl
theorem Qhp (v:Value)(xs:List (QM))(w:World)(m:Rep (.sl 311 ZF) w [v] xs)(r:Ty.tot (.sl 311 ZF) xs≤1048576):
 Calls Tryz.prog 150 #[v] w (QtT 77 ZG w xs):=by
 obtain ⟨A,c,rfl,H,F⟩:=m.slv
 have I:xs.length≤1048576:=aU (QeJ (e:=ZF) xs) r
 have j:=Ux (P:=Tryz.prog) 24 77 (.agg #[.string ByteArray.empty, .int .i64 0]) 2 24 Tryz.underlying24 QnP xs.length (by omega) (by omega)
 have g:=Fill.start (e:=ZG) w 77 (madeCells (Value.cells (.agg #[.string ByteArray.empty, .int .i64 0])) (xs.length*2)) xs.length ((size_madeCells _ _).trans rfl) xs
 go_enter Tryz.func150,Tryz.ntmps150
 go_wp2
 clear j
 go_loopw [4] (fun i x=>∃k:Nat,k≤xs.length∧i= .int .i64 k∧Fill ZG 77 w w.heap.size xs.length k x xs) (fun i _=>xs.length - (intOf i).toNat)
 case atStart=>exact ⟨0,aG _,rfl,g⟩
 case round=>
  clear g
  obtain ⟨k,G,rfl,d⟩:=hrel
  have l:=d.lt
  by_cases a:k < xs.length
  ·obtain ⟨b,o,L,M,rfl,q,y,c1⟩:=(m.nw d.nw).at2 rfl (ae a)
   have s:=QjK (e:=ZF) (E:=311) a
   go_wp2_with (go_at_call 289; refine (QjJ _ _ _ _ (by exact q) (by omega)).mono ?_; rintro e N ⟨t,u,rfl,h,f⟩; have n:t.oneCell'=true:=h.rep.one _ (by simp); have p:u.oneCell'=true:=h.rep.one _ (by simp); obtain ⟨J,K,z,C,B,D⟩:=d.cells2 f a rfl)
   go_roundw
   case rel=>exact ⟨k+1,by omega,by go_num,d.step f a (ae a) h⟩
   case measure=>simp[intOf]; omega
  ·go_wp2
   go_ret
   have:k=xs.length:=by omega
   subst this
   exact ⟨_,_,rfl,(d.done rfl (by unfold maxLen; omega)).mono d.base (aJ _),d.nw⟩
theorem QuG:(Tryz.prog.info? 3).map (fun i=>(i.zero,i.size,i.bytes))=some (some (.int .i64 0),1,8):=by kernel_rfl
theorem QgX (v:Value)(xs:List (Int))(w:World)(l:Rep Qz w [v] xs)(p:Ty.tot Qz xs≤1048576):
 Calls Tryz.prog 502 #[v] w (QtT 3 .int w xs):=by
 obtain ⟨A,c,rfl,y,u⟩:=l.slv
 have z:xs.length≤1048576:=aU (QeJ (e:= .int) xs) p
 have g:=Ux (P:=Tryz.prog) 123 3 (.int .i64 0) 1 8 Tryz.underlying123 QuG xs.length (by omega) (by omega)
 have f:=Fill.start (e:= .int) w 3 (madeCells (Value.cells (.int .i64 0)) (xs.length*1)) xs.length ((size_madeCells _ _).trans rfl) xs
 rw[cD] at f
 go_enter Tryz.func502,Tryz.ntmps502
 go_wp2
 clear g
 go_loopw [4] (fun i q=>∃k:Nat,k≤xs.length∧i= .int .i64 k∧Fill .int 3 w w.heap.size xs.length k q xs) (fun i _=>xs.length - (intOf i).toNat)
 case atStart=>exact ⟨0,aG _,rfl,f⟩
 case round=>
  clear f
  obtain ⟨k,x,rfl,d⟩:=hrel
  have j:=d.lt
  by_cases a:k < xs.length
  ·obtain ⟨b,o,C,rfl,n,r⟩:=(l.nw d.nw).at1 rfl (ae a)
   obtain ⟨rfl,h⟩:=n.int_
   obtain ⟨B,s,t⟩:=d.cells1 (Qr _) a rfl
   go_wp2
   go_roundw
   case rel=>exact ⟨k+1,by omega,by go_num,by have m:=d.step (Qr _) a (ae a) (Frs.int h); simpa [WE,Ty.wd] using m⟩
   case measure=>simp[intOf]; omega
  ·go_wp2
   go_ret
   have:k=xs.length:=by omega
   subst this
   exact ⟨_,_,rfl,(d.done rfl (by unfold maxLen; omega)).mono d.base (aJ _),d.nw⟩
theorem QdC (A C:Value)(x:QG)(w:World)(R:Rep QV w [A,C] x)(S:Ty.tot QV x≤1048576):
 Calls Tryz.prog 408 #[.agg #[A,C]] w (QtS QN w x):=by
 obtain ⟨j,k⟩:=x
 obtain ⟨W,q0⟩:=R.pr1 rfl
 have X:=q0
 have z:Ty.tot QV (j,k)=Ty.tot Qz j+(Ty.tot Qz k):=rfl
 rw[z] at S
 clear z
 go_enter Tryz.func408,Tryz.ntmps408
 go_wp2_with fail
 refine (QgX _ _ _ (by exact W.nw (by (repeat (first | with_reducible exact Qr _ | with_reducible assumption | with_reducible apply Nw.alloc | with_reducible apply Nw.drew | with_reducible apply Nw.drewN | (with_reducible refine Qm ?_ ?_; focus (first | (simp; done) | (simp; omega))) | with_reducible refine Qt ‹_› ?_)))) (by omega)).mono ?_
 rintro e c ⟨q,t,rfl,m,g⟩
 have T:w.heap.size+3≤c.heap.size:=by (have h:=g.size; simp at h; omega)
 have f:Frs Qz (w.heap.size+3) c.heap.size c [.slice q j.length t] j:=by (refine Frs.mono m ?_ ?_; simp; exact aJ _)
 have D:Nw w c:=by (repeat (first | with_reducible exact Qr _ | with_reducible assumption | with_reducible apply Nw.alloc | with_reducible apply Nw.drew | with_reducible apply Nw.drewN | (with_reducible refine Qm ?_ ?_; focus (first | (simp; done) | (simp; omega))) | with_reducible refine Qt ‹_› ?_))
 obtain ⟨J,O⟩:=g.cells
 clear m g
 have o:w.heap.size < c.heap.size∧w.heap.size+1 < c.heap.size∧w.heap.size+2 < c.heap.size:=by omega
 obtain ⟨F,H,L⟩:=o
 go_wp2_with fail
 refine (QgX _ _ _ (by exact X.nw (by (repeat (first | with_reducible exact Qr _ | with_reducible assumption | with_reducible apply Nw.alloc | with_reducible apply Nw.drew | with_reducible apply Nw.drewN | (with_reducible refine Qm ?_ ?_; focus (first | (simp; done) | (simp; omega))) | with_reducible refine Qt ‹_› ?_)))) (by omega)).mono ?_
 rintro e d ⟨s,c1,rfl,n,i⟩
 have V:c.heap.size≤d.heap.size:=by (have h:=i.size; simp at h; omega)
 have u:Frs Qz c.heap.size d.heap.size d [.slice s k.length c1] k:=by (refine Frs.mono n ?_ ?_; simp; exact aJ _)
 replace f:=f.kb (w':=d) (by (repeat (first | with_reducible exact W7 | with_reducible assumption | with_reducible apply Kb.drew | with_reducible apply Kb.drewN | (with_reducible refine Yi ?_ ?_; focus (first | (simp; done) | (simp; omega))) | (with_reducible refine Y8 ?_ ?_; focus (first | (simp; done) | (simp; omega))) | (with_reducible refine U6 ‹_› ?_ ?_; focus (first | (simp; done) | (simp; omega))))))
 have E:Nw w d:=by (repeat (first | with_reducible exact Qr _ | with_reducible assumption | with_reducible apply Nw.alloc | with_reducible apply Nw.drew | with_reducible apply Nw.drewN | (with_reducible refine Qm ?_ ?_; focus (first | (simp; done) | (simp; omega))) | with_reducible refine Qt ‹_› ?_))
 obtain ⟨K,P⟩:=i.cells
 clear n i
 have Q:w.heap.size+3≤d.heap.size:=by omega
 have p:w.heap.size < d.heap.size∧w.heap.size+1 < d.heap.size∧w.heap.size+2 < d.heap.size:=by omega
 obtain ⟨G,I,N⟩:=p
 go_wp2
 refine bodyPost_ret (v:= .agg #[.slice q j.length t, .slice s k.length c1]) (by simp only[results,Tryz.results408]; go_simp) rfl ⟨_,_,rfl, ?_, ?_⟩
 ·refine Frs.mono (B:=w.heap.size) (U:=d.heap.size) ?_ (aJ _) (by simp <;> omega)
  (refine Ub (a:=Qz) (b:=Qz) (l:=[.slice q j.length t]) (r:=[.slice s k.length c1]) (x:=j) (y:=(k)) (M:=c.heap.size) ?_ ?_ (by omega) (by omega); (focus (refine Frs.mono (Frs.kb f (by (repeat (first | with_reducible exact W7 | with_reducible assumption | with_reducible apply Kb.drew | with_reducible apply Kb.drewN | (with_reducible refine Yi ?_ ?_; focus (first | (simp; done) | (simp; omega))) | (with_reducible refine Y8 ?_ ?_; focus (first | (simp; done) | (simp; omega))) | (with_reducible refine U6 ‹_› ?_ ?_; focus (first | (simp; done) | (simp; omega))))))) ?_ ?_; omega; exact aJ _)); (refine Frs.mono (Frs.kb u (by (repeat (first | with_reducible exact W7 | with_reducible assumption | with_reducible apply Kb.drew | with_reducible apply Kb.drewN | (with_reducible refine Yi ?_ ?_; focus (first | (simp; done) | (simp; omega))) | (with_reducible refine Y8 ?_ ?_; focus (first | (simp; done) | (simp; omega))) | (with_reducible refine U6 ‹_› ?_ ?_; focus (first | (simp; done) | (simp; omega))))))) ?_ ?_; omega; exact aJ _))
 ·(repeat (first | with_reducible exact Qr _ | with_reducible assumption | with_reducible apply Nw.alloc | with_reducible apply Nw.drew | with_reducible apply Nw.drewN | (with_reducible refine Qm ?_ ?_; focus (first | (simp; done) | (simp; omega))) | with_reducible refine Qt ‹_› ?_))
theorem Qgp:(Tryz.prog.info? 275).map (fun i=>(i.zero,i.size,i.bytes))=some (some (.agg #[.slice none 0 0, .slice none 0 0]),2,48):=by kernel_rfl
theorem QcJ (v:Value)(xs:List (QG))(w:World)(m:Rep (.sl 424 QV) w [v] xs)(r:Ty.tot (.sl 424 QV) xs≤1048576):
 Calls Tryz.prog 288 #[v] w (QtT 275 QN w xs):=by
 obtain ⟨A,c,rfl,H,F⟩:=m.slv
 have I:xs.length≤1048576:=aU (QeJ (e:=QV) xs) r
 have j:=Ux (P:=Tryz.prog) 46 275 (.agg #[.slice none 0 0, .slice none 0 0]) 2 48 Tryz.underlying46 Qgp xs.length (by omega) (by omega)
 have g:=Fill.start (e:=QN) w 275 (madeCells (Value.cells (.agg #[.slice none 0 0, .slice none 0 0])) (xs.length*2)) xs.length ((size_madeCells _ _).trans rfl) xs
 go_enter Tryz.func288,Tryz.ntmps288
 go_wp2
 clear j
 go_loopw [4] (fun i x=>∃k:Nat,k≤xs.length∧i= .int .i64 k∧Fill QN 275 w w.heap.size xs.length k x xs) (fun i _=>xs.length - (intOf i).toNat)
 case atStart=>exact ⟨0,aG _,rfl,g⟩
 case round=>
  clear g
  obtain ⟨k,G,rfl,d⟩:=hrel
  have l:=d.lt
  by_cases a:k < xs.length
  ·obtain ⟨b,o,L,M,rfl,q,y,c1⟩:=(m.nw d.nw).at2 rfl (ae a)
   have s:=QjK (e:=QV) (E:=424) a
   go_wp2_with (go_at_call 408; refine (QdC _ _ _ _ (by exact q) (by omega)).mono ?_; rintro e N ⟨t,u,rfl,h,f⟩; have n:t.oneCell'=true:=h.rep.one _ (by simp); have p:u.oneCell'=true:=h.rep.one _ (by simp); obtain ⟨J,K,z,C,B,D⟩:=d.cells2 f a rfl)
   go_roundw
   case rel=>exact ⟨k+1,by omega,by go_num,d.step f a (ae a) h⟩
   case measure=>simp[intOf]; omega
  ·go_wp2
   go_ret
   have:k=xs.length:=by omega
   subst this
   exact ⟨_,_,rfl,(d.done rfl (by unfold maxLen; omega)).mono d.base (aJ _),d.nw⟩
theorem Qrc (q s:Value)(x:V8)(w:World)(E:Rep Qhd w [q,s] x)(F:Ty.tot Qhd x≤1048576):
 Calls Tryz.prog 149 #[.agg #[q,s]] w (QtS QdB w x):=by
 obtain ⟨m,f⟩:=x
 obtain ⟨H,q0⟩:=E.pr1 rfl
 have I:=q0
 obtain ⟨rfl,i,j⟩:=H.int_
 have p:Ty.tot Qhd (m,f)=0+(Ty.tot (.sl 424 QV) f):=rfl
 rw[p] at F
 clear p
 go_enter Tryz.func149,Tryz.ntmps149
 go_wp2_with fail
 refine (QcJ _ _ _ (by exact I.nw (by (repeat (first | with_reducible exact Qr _ | with_reducible assumption | with_reducible apply Nw.alloc | with_reducible apply Nw.drew | with_reducible apply Nw.drewN | (with_reducible refine Qm ?_ ?_; focus (first | (simp; done) | (simp; omega))) | with_reducible refine Qt ‹_› ?_)))) (by omega)).mono ?_
 rintro e c ⟨n,c1,rfl,g,d⟩
 have G:w.heap.size+3≤c.heap.size:=by (have h:=d.size; simp at h; omega)
 have o:Frs (.sl 275 QN) (w.heap.size+3) c.heap.size c [.slice n f.length c1] f:=by (refine Frs.mono g ?_ ?_; simp; exact aJ _)
 have t:Nw w c:=by (repeat (first | with_reducible exact Qr _ | with_reducible assumption | with_reducible apply Nw.alloc | with_reducible apply Nw.drew | with_reducible apply Nw.drewN | (with_reducible refine Qm ?_ ?_; focus (first | (simp; done) | (simp; omega))) | with_reducible refine Qt ‹_› ?_))
 obtain ⟨A,D⟩:=d.cells
 clear g d
 have k:w.heap.size < c.heap.size∧w.heap.size+1 < c.heap.size∧w.heap.size+2 < c.heap.size:=by omega
 obtain ⟨u,z,C⟩:=k
 go_wp2
 refine bodyPost_ret (v:= .agg #[.int .i64 m, .slice n f.length c1]) (by simp only[results,Tryz.results149]; go_simp) rfl ⟨_,_,rfl, ?_, ?_⟩
 ·refine Frs.mono (B:=w.heap.size) (U:=c.heap.size) ?_ (aJ _) (by simp <;> omega)
  (refine Ub (a:= .int) (b:=(.sl 275 QN)) (l:=[.int .i64 m]) (r:=[.slice n f.length c1]) (x:=m) (y:=(f)) (M:=w.heap.size) ?_ ?_ (by omega) (by omega); (focus (exact Frs.int (x:=m) ⟨i,j⟩)); (refine Frs.mono (Frs.kb o (by (repeat (first | with_reducible exact W7 | with_reducible assumption | with_reducible apply Kb.drew | with_reducible apply Kb.drewN | (with_reducible refine Yi ?_ ?_; focus (first | (simp; done) | (simp; omega))) | (with_reducible refine Y8 ?_ ?_; focus (first | (simp; done) | (simp; omega))) | (with_reducible refine U6 ‹_› ?_ ?_; focus (first | (simp; done) | (simp; omega))))))) ?_ ?_; omega; exact aJ _))
 ·(repeat (first | with_reducible exact Qr _ | with_reducible assumption | with_reducible apply Nw.alloc | with_reducible apply Nw.drew | with_reducible apply Nw.drewN | (with_reducible refine Qm ?_ ?_; focus (first | (simp; done) | (simp; omega))) | with_reducible refine Qt ‹_› ?_))
theorem QlA (h i:Value)(x:Zl)(w:World)(j:Rep X8 w [h,i] x)(k:Ty.tot X8 x≤1048576):
 Calls Tryz.prog 290 #[.agg #[h,i]] w (QtS Yv w x):=by
 obtain ⟨e,f⟩:=x
 obtain ⟨m,q0⟩:=j.pr1 rfl
 have n:=q0
 obtain ⟨rfl,c,d⟩:=m.int_
 obtain rfl:=n.bool_
 have g:Ty.tot X8 (e,f)=0+(0):=rfl
 rw[g] at k
 clear g
 go_enter Tryz.func290,Tryz.ntmps290
 skip
 go_wp2
 refine bodyPost_ret (v:= .agg #[.int .i64 e, .bool f]) (by simp only[results,Tryz.results290]; go_simp) rfl ⟨_,_,rfl, ?_, ?_⟩
 ·refine Frs.mono (B:=w.heap.size) (U:=w.heap.size) ?_ (aJ _) (by simp <;> omega)
  (refine Ub (a:= .int) (b:= .bool) (l:=[.int .i64 e]) (r:=[.bool f]) (x:=e) (y:=(f)) (M:=w.heap.size) ?_ ?_ (by omega) (by omega); (focus (exact Frs.int (x:=e) ⟨c,d⟩)); (exact Frs.bool (x:=f)))
 ·(repeat (first | with_reducible exact Qr _ | with_reducible assumption | with_reducible apply Nw.alloc | with_reducible apply Nw.drew | with_reducible apply Nw.drewN | (with_reducible refine Qm ?_ ?_; focus (first | (simp; done) | (simp; omega))) | with_reducible refine Qt ‹_› ?_))
theorem QqA:(Tryz.prog.info? 75).map (fun i=>(i.zero,i.size,i.bytes))=some (some (.agg #[.int .i64 0, .bool false]),2,16):=by kernel_rfl
theorem QjI (v:Value)(xs:List (Zl))(w:World)(m:Rep (.sl 323 X8) w [v] xs)(r:Ty.tot (.sl 323 X8) xs≤1048576):
 Calls Tryz.prog 151 #[v] w (QtT 75 Yv w xs):=by
 obtain ⟨A,c,rfl,H,F⟩:=m.slv
 have I:xs.length≤1048576:=aU (QeJ (e:=X8) xs) r
 have j:=Ux (P:=Tryz.prog) 49 75 (.agg #[.int .i64 0, .bool false]) 2 16 Tryz.underlying49 QqA xs.length (by omega) (by omega)
 have g:=Fill.start (e:=Yv) w 75 (madeCells (Value.cells (.agg #[.int .i64 0, .bool false])) (xs.length*2)) xs.length ((size_madeCells _ _).trans rfl) xs
 go_enter Tryz.func151,Tryz.ntmps151
 go_wp2
 clear j
 go_loopw [4] (fun i x=>∃k:Nat,k≤xs.length∧i= .int .i64 k∧Fill Yv 75 w w.heap.size xs.length k x xs) (fun i _=>xs.length - (intOf i).toNat)
 case atStart=>exact ⟨0,aG _,rfl,g⟩
 case round=>
  clear g
  obtain ⟨k,G,rfl,d⟩:=hrel
  have l:=d.lt
  by_cases a:k < xs.length
  ·obtain ⟨b,o,L,M,rfl,q,y,c1⟩:=(m.nw d.nw).at2 rfl (ae a)
   have s:=QjK (e:=X8) (E:=323) a
   go_wp2_with (go_at_call 290; refine (QlA _ _ _ _ (by exact q) (by omega)).mono ?_; rintro e N ⟨t,u,rfl,h,f⟩; have n:t.oneCell'=true:=h.rep.one _ (by simp); have p:u.oneCell'=true:=h.rep.one _ (by simp); obtain ⟨J,K,z,C,B,D⟩:=d.cells2 f a rfl)
   go_roundw
   case rel=>exact ⟨k+1,by omega,by go_num,d.step f a (ae a) h⟩
   case measure=>simp[intOf]; omega
  ·go_wp2
   go_ret
   have:k=xs.length:=by omega
   subst this
   exact ⟨_,_,rfl,(d.done rfl (by unfold maxLen; omega)).mono d.base (aJ _),d.nw⟩
theorem Qrd (L N O P Q:Value)(x:Yz)(w:World)(hr:Rep Qco w [L,N,O,P,Q] x)(hz:Ty.tot Qco x≤1048576):
 Calls Tryz.prog 43 #[.agg #[L,N,O,P,Q]] w (QxH QcI w x):=by
 obtain ⟨G,n,f,g⟩:=x
 obtain ⟨r0,q0⟩:=hr.pr2 rfl
 obtain ⟨r1,q1⟩:=q0.pr1 rfl
 obtain ⟨r2,q2⟩:=q1.pr1 rfl
 have r3:=q2
 obtain ⟨rfl,t⟩:=r3.str_
 have t:g.size≤9223372036854775807:=t
 have I:Ty.tot Qco (G,n,f,g)=Ty.tot Qhd G+(Ty.tot (.sl 311 ZF) n+(Ty.tot (.sl 323 X8) f+(g.size))):=rfl
 rw[I] at hz
 clear I
 go_enter Tryz.func43,Tryz.ntmps43
 go_wp2_with fail
 refine (Qrc _ _ _ _ (by exact r0.nw (by (repeat (first | with_reducible exact Qr _ | with_reducible assumption | with_reducible apply Nw.alloc | with_reducible apply Nw.drew | with_reducible apply Nw.drewN | (with_reducible refine Qm ?_ ?_; focus (first | (simp; done) | (simp; omega))) | with_reducible refine Qt ‹_› ?_)))) (by omega)).mono ?_
 rintro e i ⟨k,m,rfl,j,p⟩
 have b2:w.heap.size+3≤i.heap.size:=by (have h:=p.size; simp at h; omega)
 have d:Frs QdB (w.heap.size+3) i.heap.size i [k,m] G:=by (refine Frs.mono j ?_ ?_; simp; exact aJ _)
 have R:Nw w i:=by (repeat (first | with_reducible exact Qr _ | with_reducible assumption | with_reducible apply Nw.alloc | with_reducible apply Nw.drew | with_reducible apply Nw.drewN | (with_reducible refine Qm ?_ ?_; focus (first | (simp; done) | (simp; omega))) | with_reducible refine Qt ‹_› ?_))
 obtain ⟨a1,a7⟩:=p.cells
 have J:k.oneCell'=true:=j.rep.one _ (by simp)
 have K:m.oneCell'=true:=j.rep.one _ (by simp)
 clear j p
 have C:w.heap.size < i.heap.size∧w.heap.size+1 < i.heap.size∧w.heap.size+2 < i.heap.size:=by omega
 obtain ⟨V,Y,a4⟩:=C
 go_wp2_with fail
 refine (Qhp _ _ _ (by exact r1.nw (by (repeat (first | with_reducible exact Qr _ | with_reducible assumption | with_reducible apply Nw.alloc | with_reducible apply Nw.drew | with_reducible apply Nw.drewN | (with_reducible refine Qm ?_ ?_; focus (first | (simp; done) | (simp; omega))) | with_reducible refine Qt ‹_› ?_)))) (by omega)).mono ?_
 rintro e c ⟨F,c1,rfl,z,q⟩
 have b3:i.heap.size≤c.heap.size:=by (have h:=q.size; simp at h; omega)
 have o:Frs (.sl 77 ZG) i.heap.size c.heap.size c [.slice F n.length c1] n:=by (refine Frs.mono z ?_ ?_; simp; exact aJ _)
 replace d:=d.kb (w':=c) (by (repeat (first | with_reducible exact W7 | with_reducible assumption | with_reducible apply Kb.drew | with_reducible apply Kb.drewN | (with_reducible refine Yi ?_ ?_; focus (first | (simp; done) | (simp; omega))) | (with_reducible refine Y8 ?_ ?_; focus (first | (simp; done) | (simp; omega))) | (with_reducible refine U6 ‹_› ?_ ?_; focus (first | (simp; done) | (simp; omega))))))
 have S:Nw w c:=by (repeat (first | with_reducible exact Qr _ | with_reducible assumption | with_reducible apply Nw.alloc | with_reducible apply Nw.drew | with_reducible apply Nw.drewN | (with_reducible refine Qm ?_ ?_; focus (first | (simp; done) | (simp; omega))) | with_reducible refine Qt ‹_› ?_))
 obtain ⟨a2,a8⟩:=q.cells
 clear z q
 have b0:w.heap.size+3≤c.heap.size:=by omega
 have D:w.heap.size < c.heap.size∧w.heap.size+1 < c.heap.size∧w.heap.size+2 < c.heap.size:=by omega
 obtain ⟨W,Z,a5⟩:=D
 go_wp2_with fail
 refine (QjI _ _ _ (by exact r2.nw (by (repeat (first | with_reducible exact Qr _ | with_reducible assumption | with_reducible apply Nw.alloc | with_reducible apply Nw.drew | with_reducible apply Nw.drewN | (with_reducible refine Qm ?_ ?_; focus (first | (simp; done) | (simp; omega))) | with_reducible refine Qt ‹_› ?_)))) (by omega)).mono ?_
 rintro e w2 ⟨u,c2,rfl,A,s⟩
 have b4:c.heap.size≤w2.heap.size:=by (have h:=s.size; simp at h; omega)
 have H:Frs (.sl 75 Yv) c.heap.size w2.heap.size w2 [.slice u f.length c2] f:=by (refine Frs.mono A ?_ ?_; simp; exact aJ _)
 replace d:=d.kb (w':=w2) (by (repeat (first | with_reducible exact W7 | with_reducible assumption | with_reducible apply Kb.drew | with_reducible apply Kb.drewN | (with_reducible refine Yi ?_ ?_; focus (first | (simp; done) | (simp; omega))) | (with_reducible refine Y8 ?_ ?_; focus (first | (simp; done) | (simp; omega))) | (with_reducible refine U6 ‹_› ?_ ?_; focus (first | (simp; done) | (simp; omega))))))
 replace o:=o.kb (w':=w2) (by (repeat (first | with_reducible exact W7 | with_reducible assumption | with_reducible apply Kb.drew | with_reducible apply Kb.drewN | (with_reducible refine Yi ?_ ?_; focus (first | (simp; done) | (simp; omega))) | (with_reducible refine Y8 ?_ ?_; focus (first | (simp; done) | (simp; omega))) | (with_reducible refine U6 ‹_› ?_ ?_; focus (first | (simp; done) | (simp; omega))))))
 have T:Nw w w2:=by (repeat (first | with_reducible exact Qr _ | with_reducible assumption | with_reducible apply Nw.alloc | with_reducible apply Nw.drew | with_reducible apply Nw.drewN | (with_reducible refine Qm ?_ ?_; focus (first | (simp; done) | (simp; omega))) | with_reducible refine Qt ‹_› ?_))
 obtain ⟨a3,a9⟩:=s.cells
 clear A s
 have b1:w.heap.size+3≤w2.heap.size:=by omega
 have E:w.heap.size < w2.heap.size∧w.heap.size+1 < w2.heap.size∧w.heap.size+2 < w2.heap.size:=by omega
 obtain ⟨X,a0,a6⟩:=E
 go_wp2
 refine bodyPost_ret (v:= .agg #[k,m, .slice F n.length c1, .slice u f.length c2, .string g]) (by simp only[results,Tryz.results43]; go_simp) rfl ⟨_,_,_,_,_,rfl, ?_, ?_⟩
 ·refine Frs.mono (B:=w.heap.size) (U:=w2.heap.size) ?_ (aJ _) (by simp <;> omega)
  (refine Ub (a:=QdB) (b:=(.pr (.sl 77 ZG) (.pr (.sl 75 Yv) .str))) (l:=[k,m]) (r:=[.slice F n.length c1, .slice u f.length c2, .string g]) (x:=G) (y:=(n,f,g)) (M:=i.heap.size) ?_ ?_ (by omega) (by omega); (focus (refine Frs.mono (Frs.kb d (by (repeat (first | with_reducible exact W7 | with_reducible assumption | with_reducible apply Kb.drew | with_reducible apply Kb.drewN | (with_reducible refine Yi ?_ ?_; focus (first | (simp; done) | (simp; omega))) | (with_reducible refine Y8 ?_ ?_; focus (first | (simp; done) | (simp; omega))) | (with_reducible refine U6 ‹_› ?_ ?_; focus (first | (simp; done) | (simp; omega))))))) ?_ ?_; omega; exact aJ _)); ((refine Ub (a:=(.sl 77 ZG)) (b:=(.pr (.sl 75 Yv) .str)) (l:=[.slice F n.length c1]) (r:=[.slice u f.length c2, .string g]) (x:=n) (y:=(f,g)) (M:=c.heap.size) ?_ ?_ (by omega) (by omega); (focus (refine Frs.mono (Frs.kb o (by (repeat (first | with_reducible exact W7 | with_reducible assumption | with_reducible apply Kb.drew | with_reducible apply Kb.drewN | (with_reducible refine Yi ?_ ?_; focus (first | (simp; done) | (simp; omega))) | (with_reducible refine Y8 ?_ ?_; focus (first | (simp; done) | (simp; omega))) | (with_reducible refine U6 ‹_› ?_ ?_; focus (first | (simp; done) | (simp; omega))))))) ?_ ?_; omega; exact aJ _)); ((refine Ub (a:=(.sl 75 Yv)) (b:= .str) (l:=[.slice u f.length c2]) (r:=[.string g]) (x:=f) (y:=(g)) (M:=w2.heap.size) ?_ ?_ (by omega) (by omega); (focus (refine Frs.mono (Frs.kb H (by (repeat (first | with_reducible exact W7 | with_reducible assumption | with_reducible apply Kb.drew | with_reducible apply Kb.drewN | (with_reducible refine Yi ?_ ?_; focus (first | (simp; done) | (simp; omega))) | (with_reducible refine Y8 ?_ ?_; focus (first | (simp; done) | (simp; omega))) | (with_reducible refine U6 ‹_› ?_ ?_; focus (first | (simp; done) | (simp; omega))))))) ?_ ?_; omega; exact aJ _)); (exact Frs.str (x:=g) t))))))
 ·(repeat (first | with_reducible exact Qr _ | with_reducible assumption | with_reducible apply Nw.alloc | with_reducible apply Nw.drew | with_reducible apply Nw.drewN | (with_reducible refine Qm ?_ ?_; focus (first | (simp; done) | (simp; omega))) | with_reducible refine Qt ‹_› ?_))
end Go.Proofs.YtndabgcpnmeeoaaGreat
