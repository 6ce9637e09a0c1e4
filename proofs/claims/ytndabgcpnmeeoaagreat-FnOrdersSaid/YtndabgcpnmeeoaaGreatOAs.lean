/- Valid signal transition graphs, both sides. -/
import Derived.Test.YtndabgcpnmeeoaaGreatONm
import Derived.Test.YtndabgcpnmeeoaaGreatOIdx
import Derived.StillTail
import Derived.Deep.RegionHeld3
import Derived.Maps.AppendAt
import Derived.Laws.OwnMore
set_option linter.unusedSimpArgs false
set_option linter.unusedVariables false
set_option linter.unusedSectionVars false
namespace Go.Proofs.YtndabgcpnmeeoaaGreat
set_option maxHeartbeats 4000000
set_option maxRecDepth 100000
open Go.RowKit
theorem Rep.pr_flat {a b c d e:Ty}{w:World}{g i j k l:Value}{x:((a.Den×b.Den)×c.Den×d.Den×e.Den)}(h:Rep (.pr (.pr a b) (.pr c (.pr d e))) w [g,i,j,k,l] x)(f:a.wd=1)(hb:b.wd=1)(t:c.wd=1)(u:d.wd=1):
 Rep a w [g] x.1.1∧Rep b w [i] x.1.2∧Rep c w [j] x.2.1∧Rep d w [k] x.2.2.1∧Rep e w [l] x.2.2.2:=by
 obtain ⟨m,n⟩:=h.pr2 (show (Ty.pr a b).wd=2 by simp[Ty.wd,f,hb])
 obtain ⟨o,p⟩:=m.open2 f
 obtain ⟨q,r,s⟩:=n.open3 t u
 exact ⟨o,p,q,r,s⟩
theorem Rep.pr_net {a b c d e:Ty}{w:World}{f g j k l:Value}{x:((a.Den×b.Den)×c.Den×d.Den×e.Den)}(h:Rep (.pr (.pr a b) (.pr c (.pr d e))) w [f,g,j,k,l] x)(i:a.wd=1)(hb:b.wd=1):Rep (.pr a b) w [f,g] x.1:=
 (h.pr2 (show (Ty.pr a b).wd=2 by simp[Ty.wd,i,hb])).1
def Qa1 (m:Nat)(l:Q9):Prop:=(0≤l.1∧l.1≤(m:Int) - 1)∨(l.1= -1∧l.2=false)
structure StgOk (s:Qy):Prop where
  net:YZ s.1
  sigs:XM s.2.1
  len:s.2.2.1.length=s.1.2.length
  labs:∀l∈s.2.2.1,Qa1 s.2.1.length l
  bits:Xz s.2.2.2 s.1.1
theorem QjN (s:Int)(j:Bool)(m:Nat)(w:World)(z:m≤9223372036854775807):
 Calls Tryz.prog 350 #[.agg #[.int .i64 s, .bool j], .int .i64 m] w (RetB (Qa1 m (s,j)) w):=by
 go_enter Tryz.func350,Tryz.ntmps350
 obtain ⟨n,d,b,f,l⟩:=K7 w #[.int .i64 s, .bool j] 75
 have o:=f 0
 have p:=f 1
 simp only[cE,bD,ce] at o p
 have v:w.heap.size < n.heap.size:=by omega
 clear f l
 have y:IntKind.i64.wrap ((m:Int) - 1)=(m:Int) - 1:=IntWalk.i64_in _ (by omega)
 go_wp2_with fail
 rw[← d]
 have x:=hid d
 clear d
 refine (Kt _ _ _ _).mono ?_
 rintro e A ⟨q,rfl,c,a⟩
 obtain ⟨t,u⟩:=a.cells
 cases q with
 | true=>
  have i:=hid (c.1 rfl)
  clear c
  go_wp2
  go_ret
  exact RetB.yes (.inl i.out) (b.trans a)
 | false=>
  have i:=hid (RetB.not c)
  clear c
  by_cases g:s= -1
  ·have r:=U7 g
   have k:=hid g
   clear g
   cases j with
   | true=>
    go_wp2
    go_ret
    exact RetB.no (fun h=>by rcases h with h | ⟨_,h⟩; exact i.out h; cases h) (b.trans a)
   | false=>
    go_wp2
    go_ret
    exact RetB.yes (.inr ⟨k.out,rfl⟩) (b.trans a)
  ·have r:=X9 g
   have k:=hid g
   clear g
   go_wp2
   go_ret
   exact RetB.no (fun h=>by rcases h with h | ⟨h,_⟩; exact i.out h; exact k.out h) (b.trans a)
theorem Qmt (s:Int)(j:Bool)(m:Nat)(w:World)(z:m≤9223372036854775807):
 Calls Tryz.prog 263 #[.agg #[.int .i64 s, .bool j], .int .i64 m] w (RetB (Qa1 m (s,j)) w):=by
 go_enter Tryz.func263,Tryz.ntmps263
 obtain ⟨n,d,b,f,l⟩:=K7 w #[.int .i64 s, .bool j] 75
 have o:=f 0
 have p:=f 1
 simp only[cE,bD,ce] at o p
 have v:w.heap.size < n.heap.size:=by omega
 clear f l
 have y:IntKind.i64.wrap ((m:Int) - 1)=(m:Int) - 1:=IntWalk.i64_in _ (by omega)
 go_wp2_with fail
 rw[← d]
 have x:=hid d
 clear d
 refine (W9 _ _ _ _).mono ?_
 rintro e A ⟨q,rfl,c,a⟩
 obtain ⟨t,u⟩:=a.cells
 cases q with
 | true=>
  have i:=hid (c.1 rfl)
  clear c
  go_wp2
  go_ret
  exact RetB.yes (.inl i.out) (b.trans a)
 | false=>
  have i:=hid (RetB.not c)
  clear c
  by_cases g:s= -1
  ·have r:=U7 g
   have k:=hid g
   clear g
   cases j with
   | true=>
    go_wp2
    go_ret
    exact RetB.no (fun h=>by rcases h with h | ⟨_,h⟩; exact i.out h; cases h) (b.trans a)
   | false=>
    go_wp2
    go_ret
    exact RetB.yes (.inr ⟨k.out,rfl⟩) (b.trans a)
  ·have r:=X9 g
   have k:=hid g
   clear g
   cases j with
   | true=>
    go_wp2
    go_ret
    exact RetB.no (fun h=>by rcases h with h | ⟨h,_⟩; exact i.out h; exact k.out h) (b.trans a)
   | false=>
    go_wp2
    go_ret
    exact RetB.no (fun h=>by rcases h with h | ⟨h,_⟩; exact i.out h; exact k.out h) (b.trans a)
def LabAt (m:Nat)(ls:List Q9)(k:Nat):Prop:=∀x,ls[k]? =some x→Qa1 m x
theorem LabAt.step {m:Nat}{ls:List Q9}{k:Nat}(h:∀j,j < k→LabAt m ls j)(a:LabAt m ls k):∀j,j < k+1→LabAt m ls j:=by
 intro j b
 by_cases e:j=k
 ·subst e; exact a
 ·exact h j (by omega)
theorem Qpw {m:Nat}{ls:List Q9}(h:∀j,j < ls.length→LabAt m ls j):∀l∈ls,Qa1 m l:=by
 intro l b
 obtain ⟨j,a⟩:=aO.1 b
 exact h j (ah.1 a).1 l a
theorem Qmx (L M N O P:Value)(s:Qy)(w:World)(hn:Rep Zl w [L,M,N,O,P] s):
 Calls Tryz.prog 253 #[.agg #[L,M,N,O,P]] w (RetB (StgOk s) w):=by
 have rN:=hn.pr_net rfl rfl
 obtain ⟨⟨p,m⟩,E,f,K⟩:=s
 obtain ⟨rP,rT,rS,rL,rM⟩:=hn.pr_flat rfl rfl rfl rfl
 dsimp only at rP rT rS rL rM rN
 obtain ⟨rfl, -, -⟩:=rP.int_
 obtain ⟨AT,cT,rfl,b5,X⟩:=rT.slv
 obtain ⟨AS,cS,rfl,b4,W⟩:=rS.slv
 obtain ⟨AL,cL,rfl,b0,V⟩:=rL.slv
 obtain ⟨rfl,a7⟩:=rM.str_
 have b7:m.length≤9223372036854775807:=by unfold maxLen at X; omega
 have Z:E.length≤9223372036854775807:=by unfold maxLen at W; omega
 have b6:f.length≤9223372036854775807:=by unfold maxLen at V; omega
 have R:=hid (fun (h:StgOk ((p,m),E,f,K))=>h)
 have F:=hid (fun h1 h2 h3 h4 h5=>(StgOk.mk h1 h2 h3 h4 h5:StgOk ((p,m),E,f,K)))
 generalize G:StgOk ((p,m),E,f,K)=PP at*
 have c:=hid G
 clear G R rP rM
 obtain ⟨S,A,d,g,a8⟩:=K7 w #[.int .i64 p, .slice AT m.length cT, .slice AS E.length cS, .slice AL f.length cL, .string K] 51
 have L:=g 0
 have M:=g 1
 have N:=g 2
 have O:=g 3
 have P:=g 4
 simp only[cE,bD,ce] at L M N O P
 have b8:w.heap.size < S.heap.size:=by omega
 clear g a8
 go_enter Tryz.func253,Tryz.ntmps253
 go_wp2
 rw[← A]
 have HW:=hid A
 clear A
 go_loopw [8] (fun i wr=>∃k:Nat,k≤f.length∧i= .int .i64 k∧(∀j,j < k→LabAt E.length f j)∧Nw S wr) (fun i _=>f.length - (intOf i).toNat)
 case atStart=>exact ⟨0,aP _,rfl,fun j h=>absurd h (by omega),QM _⟩
 case round=>
  obtain ⟨wo,rfl⟩:∃wo:World,wo=wr:=⟨_,rfl⟩
  obtain ⟨k,hk,rfl,t,J⟩:=hrel
  have HY:=hid t
  clear t
  obtain ⟨U,Y⟩:=J.cells
  have b9:w.heap.size < wo.heap.size:=by have:=J.size; omega
  by_cases I:k < f.length
  ·obtain ⟨b,o,v0,v1,rfl,hx,c0,c1⟩:=((rL.nw d).nw J).at2 rfl (ap I)
   have HX:=hid (ap I)
   generalize a9:f[k]=x at*
   clear a9
   obtain ⟨sg,up⟩:=x
   obtain ⟨r0,r1⟩:=hx.open2 rfl
   dsimp only at r0 r1
   obtain ⟨rfl, -, -⟩:=r0.int_
   obtain rfl:=r1.bool_
   clear hx r0 r1
   go_wp2_with fail
   refine (QjN _ _ _ _ Z).mono ?_
   rintro e w1 ⟨T,rfl,a,D⟩
   obtain ⟨B,C⟩:=D.cells
   cases T with
   | false=>
    have u:=hid (RetB.not a)
    clear a
    go_wp2
    go_ret
    exact RetB.no (fun h=>by rw[← c.out] at h; exact u.out (h.labs _ (ai HX.out))) (by (repeat (first | with_reducible exact QM _ | with_reducible assumption | with_reducible apply Nw.alloc | with_reducible apply Nw.drew | with_reducible apply Nw.drewN | (with_reducible refine Q2 ?_ ?_; focus (first | (simp; done) | (simp; omega))) | with_reducible refine Zn ‹_› ?_)))
   | true=>
    have u:=hid (a.1 rfl)
    clear a
    go_wp2
    go_roundw
    case rel=>exact ⟨k+1,by omega,by go_num,LabAt.step HY.out (fun y hy=>by
     rw[HX.out] at hy
     cases hy
     exact u.out),by (repeat (first | with_reducible exact QM _ | with_reducible assumption | with_reducible apply Nw.alloc | with_reducible apply Nw.drew | with_reducible apply Nw.drewN | (with_reducible refine Q2 ?_ ?_; focus (first | (simp; done) | (simp; omega))) | with_reducible refine Zn ‹_› ?_))⟩
    case measure=>simp[intOf]; omega
  ·have:k=f.length:=by omega
   subst this
   go_wp2_with fail
   refine (Qfl _ _ (p,m) _ ((rN.nw d).nw J)).mono ?_
   rintro e w1 ⟨T,rfl,a,D⟩
   have n:Nw S w1:=J.trans D
   clear U Y
   obtain ⟨B,C⟩:=n.cells
   cases T with
   | false=>
    have u:=hid (RetB.not a)
    clear a
    go_wp2
    go_ret
    exact RetB.no (fun h=>by rw[← c.out] at h; exact u.out h.net) (d.trans n)
   | true=>
    have u:=hid (a.1 rfl)
    clear a
    go_wp2_with fail
    refine (Qae _ E _ (rS.nw (d.trans n))).mono ?_
    rintro e w2 ⟨b2,rfl,q,a5⟩
    have l:=n.trans a5
    clear B C
    obtain ⟨B,C⟩:=l.cells
    cases b2 with
    | false=>
     have v:=hid (RetB.not q)
     clear q
     go_wp2
     go_ret
     exact RetB.no (fun h=>by rw[← c.out] at h; exact v.out h.sigs) (d.trans l)
    | true=>
     have v:=hid (q.1 rfl)
     clear q
     by_cases r:f.length=m.length
     ·have e1:((f.length:Int)==(m.length:Int))=true:=U7 (by omega)
      have z:=hid r
      clear r
      go_wp2_with fail
      refine (Qmw _ _ (p,m) K _ (rN.nw (d.trans l)) a7).mono ?_
      rintro e w3 ⟨b3,rfl,H,a6⟩
      have Q:=hid H
      clear H
      go_wp2
      go_ret
      exact RetB.of (Q.out.trans ⟨fun h=>by rw[← c.out]; exact c.out▸(c.out▸F.out u.out v.out z.out (Qpw HY.out) h),fun h=>by rw[← c.out] at h; exact h.bits⟩) ((d.trans l).trans a6)
     ·have e1:((f.length:Int)==(m.length:Int))=false:=X9 (by omega)
      have z:=hid r
      clear r
      go_wp2
      go_ret
      exact RetB.no (fun h=>by rw[← c.out] at h; exact z.out h.len) (d.trans l)
theorem QaH:Qg Tryz.prog 262:=fun a W=>Qc Tryz.func262 (by kernel_rfl) rfl a W
theorem Qc8 (k l:Value)(x:Q9)(g:Nat)(n:Option Addr)(m c:Nat)(w:World)(j:Rep XP w [k,l] x)(hb:w.cell? ⟨g,2,none⟩=some (.slice n m c))(q:m≤9223372036854775807):
 Calls Tryz.prog 262 #[.agg #[k,l], .pointer (some ⟨g,0,none⟩)] w (RetB (¬Qa1 m x) w):=by
 obtain ⟨sg,s⟩:=x
 obtain ⟨d,f⟩:=j.open2 rfl
 dsimp only at d f
 obtain ⟨rfl, -, -⟩:=d.int_
 obtain rfl:=f.bool_
 have r:g < w.heap.size:=cY w _ hb
 clear j d f
 go_enter Tryz.func262,Tryz.ntmps262
 go_wp2_with fail
 refine (Qmt _ _ _ _ q).mono ?_
 rintro e t ⟨p,rfl,a,b⟩
 have o:=hid a
 clear a
 go_wp2
 go_ret
 refine RetB.of ?_ (((QM _).alloc _).trans b)
 have i:=o.out
 cases p with
 | false=>simp only[Bool.not_false,true_iff]; exact fun h=>by have:=i.2 h; cases this
 | true=>simp only[cZ,bJ,false_iff]; exact fun h=>h (i.1 rfl)
theorem Qeh (E F z G H:Value)(s:Qy)(w:World)(hn:Rep Zl w [E,F,z,G,H] s):
 Calls Tryz.prog 123 #[.agg #[E,F,z,G,H]] w (RetB (StgOk s) w):=by
 have rN:=hn.pr_net rfl rfl
 obtain ⟨⟨p,n⟩,v,m,J⟩:=s
 obtain ⟨Z,rT,rS,X,Y⟩:=hn.pr_flat rfl rfl rfl rfl
 dsimp only at Z rT rS X Y rN
 obtain ⟨rfl, -, -⟩:=Z.int_
 obtain ⟨AT,cT,rfl,a8,N⟩:=rT.slv
 obtain ⟨AS,cS,rfl,a7,M⟩:=rS.slv
 obtain ⟨AL,cL,rfl,a6,L⟩:=X.slv
 obtain ⟨rfl,U⟩:=Y.str_
 have b0:n.length≤9223372036854775807:=by unfold maxLen at N; omega
 have P:v.length≤9223372036854775807:=by unfold maxLen at M; omega
 have a9:m.length≤9223372036854775807:=by unfold maxLen at L; omega
 have x:=hid (fun h1 h2 I h4 h5=>(StgOk.mk h1 h2 I h4 h5:StgOk ((p,n),v,m,J)))
 generalize A:StgOk ((p,n),v,m,J)=PP at*
 have a:=hid A
 clear A Z Y
 obtain ⟨W0,r,b,d,V⟩:=K7 w #[.int .i64 p, .slice AT n.length cT, .slice AS v.length cS, .slice AL m.length cL, .string J] 51
 have E:=d 0
 have F:=d 1
 have z:=d 2
 have G:=d 3
 have H:=d 4
 simp only[cE,bD,ce] at E F z G H
 have T:w.heap.size < W0.heap.size:=by omega
 clear d V
 go_enter Tryz.func123,Tryz.ntmps123
 go_wp2_with fail
 rw[← r]
 have HW:=hid r
 clear r
 refine (Qan _ _ (p,n) J _ (rN.nw b) U).mono ?_
 rintro e w1 ⟨b1,rfl,f,k⟩
 obtain ⟨t,C⟩:=k.cells
 cases b1 with
 | false=>
  have D:=hid (RetB.not f)
  clear f
  go_wp2
  go_ret
  exact RetB.no (fun h=>by rw[← a.out] at h; exact D.out ⟨h.net,h.bits⟩) (b.trans k)
 | true=>
  have D:=hid (f.1 rfl)
  clear f
  go_wp2_with fail
  refine (JK _ v _ (rS.nw (b.trans k))).mono ?_
  rintro e w2 ⟨b2,rfl,g,Q⟩
  have c:=k.trans Q
  clear t C
  obtain ⟨t,C⟩:=c.cells
  cases b2 with
  | false=>
   have o:=hid (RetB.not g)
   clear g
   go_wp2
   go_ret
   exact RetB.no (fun h=>by rw[← a.out] at h; exact o.out h.sigs) (b.trans c)
  | true=>
   have o:=hid (g.1 rfl)
   clear g
   by_cases j:m.length=n.length
   ·have e1:((m.length:Int)==(n.length:Int))=true:=U7 (by omega)
    have q:=hid j
    clear j
    go_wp2_with fail
    refine (Jz (fun l=>¬Qa1 v.length l) m _ _ _ _ (X.nw (b.trans c)) QaH ?_).mono ?_
    ·intro i y W u0 u1 a5 S hy
     exact Qc8 u0 u1 y _ AS v.length cS W hy (by rw[(S.cells).1 _ _ (by have:=c.size; omega),t _ _ T]; exact z) P
    ·rintro e w3 ⟨b3,rfl,B,R⟩
     have K:=hid B
     clear B
     go_wp2
     go_ret
     refine RetB.of ?_ ((b.trans c).trans R)
     have I:=K.out
     cases b3 with
     | false=>
      simp only[Bool.not_false,true_iff]
      rw[← a.out]
      refine a.out▸(a.out▸x.out D.out.1 o.out q.out (fun l O=> ?_) D.out.2)
      exact ck fun u=>by
       have:=I.2 ⟨l,O,u⟩
       cases this
     | true=>
      simp only[cZ,bJ,false_iff]
      intro h
      rw[← a.out] at h
      obtain ⟨l,O,u⟩:=I.1 rfl
      exact u (h.labs l O)
   ·have e1:((m.length:Int)==(n.length:Int))=false:=X9 (by omega)
    have q:=hid j
    clear j
    go_wp2
    go_ret
    exact RetB.no (fun h=>by rw[← a.out] at h; exact q.out h.len) (b.trans c)
end Go.Proofs.YtndabgcpnmeeoaaGreat
namespace Go.Proofs.YtndabgcpnmeeoaaGreat
set_option maxHeartbeats 4000000
set_option maxRecDepth 100000
open Go.RowKit
def Qby (ops:Array Oper)(n:Nat):Bool:=
 (List.range n).all fun i => match ops[i]? with
  | some o=>(o.after.all fun e=> !Region.binds .any e||decide (e.on < i))&&(match o.guard with | some (g,_)=>decide (g < n) | none=>true)
  | none=>false
def QzE (l:List Oper)(n:Nat):Bool:=
 decide (n < l.length)&&Qby l.toArray n&&(List.range n).all (fun i=>Region.waitsFor .any l.toArray n i)&&Region.chainB .any l.toArray n&&
  Region.seqB .any l.toArray (l.length - n) n (Array.replicate n true++Array.replicate (l.length - n) false)
def Qzv (P:Program)(l:List Oper)(n:Nat)(Q:Exit→Act→World→Prop):Exit→Act→World→Prop
 | .normal,a,w=>wpList P l.toArray Q (l.drop n) a w
 | e,a,w=>Q e a w
section
variable {P:Program}{Q:Exit→Act→World→Prop}{a:Act}{w:World}
theorem QjD {n g:Nat}{c:Array Bool}(d:c.size=n)(b:Bool){i:Nat}(hi:i < n):(c++Array.replicate g false).getD i b=c.getD i b:=by
 simp[hi,d,Array.getElem_append_left,show i < n+g by omega]
theorem QkQ {ops:Array Oper}{n:Nat}{b:Array Bool}(m:Qby ops n=true)(j:b.size=n)(r:∀i,i < n→i∉Region.ready .any ops (b++Array.replicate (ops.size - n) false))(t:n≤ops.size):∀i,i < n→b.getD i true=true:=by
 intro i
 induction i using Nat.strongRecOn with
 | _ i s=>
  intro d
  cases h:b.getD i true with
  | true=>rfl
  | false=>
   refine absurd (mem_ready.2 ⟨by rw[QjD j _ d]; exact h, ?_⟩) (r i d)
   have c:=av.1 m i (dx.2 d)
   cases g:ops[i]? with
   | none=>rw[g] at c; cases c
   | some o=>
    rw[g] at c
    simp only[aM,Array.all_eq_true_iff_forall_mem,cy,bQ,aS] at c
    refine ⟨o,rfl,fun e q p=> ?_⟩
    have f:=c.1 e q
    rw[p] at f
    have k:e.on < i:=by simpa using f
    rw[QjD j _ (by omega)]
    have:=s e.on k (by omega)
    have l:e.on < b.size:=by omega
    simpa [l] using this
end
end Go.Proofs.YtndabgcpnmeeoaaGreat
namespace Go.Proofs.YtndabgcpnmeeoaaGreat
set_option maxHeartbeats 4000000
set_option maxRecDepth 100000
open Go.RowKit
structure Mw (B M:Nat) (w w':World):Prop where
  os:w'.os=w.os
  tape:w'.tape=w.tape
  output:w'.output=w.output
  size:w.heap.size≤w'.heap.size
  block:∀k,k < w.heap.size→(k < B∨M≤k)→w'.heap[k]? =w.heap[k]?
theorem Mw.nw {a w w':World}{B M:Nat}(h:Mw B M w w')(b:Nw a w)(d:a.heap.size≤B):Nw a w':=
 ⟨h.os.trans b.os,h.tape.trans b.tape,h.output.trans b.output,bn b.size h.size,fun k c=>(h.block k (bq c b.size) (.inl (bq c d))).trans (Below.block b k c)⟩
theorem Mw.trans {a b c:World}{B M:Nat}(h:Mw B M a b)(k:Mw B M b c):Mw B M a c:=
 ⟨k.os.trans h.os,k.tape.trans h.tape,k.output.trans h.output,bn h.size k.size,fun g d f=>(k.block g (bq d h.size) f).trans (h.block g d f)⟩
theorem Mw.mono {B M a b:Nat}{w w':World}(h:Mw B M w w')(d:a≤B)(f:M≤b):Mw a b w w':=
 ⟨h.os,h.tape,h.output,h.size,fun k c g=>h.block k c (by omega)⟩
theorem Mw.cells {B M:Nat}{w w':World}(h:Mw B M w w'):(∀b o,b < w.heap.size→(b < B∨M≤b)→w'.cell? ⟨b,o,none⟩=w.cell? ⟨b,o,none⟩)∧
 (∀b o,b < w.heap.size→(b < B∨M≤b)→w'.frozen? ⟨b,o,none⟩=w.frozen? ⟨b,o,none⟩):=
 ⟨fun b o a c=>World.cell?_of_block (h.block b a c),fun b o a c=>World.frozen?_of_block (h.block b a c)⟩
structure ElemInfo (P:Program) (E:TypeId) (e:Ty):Prop where
  ex:∃i z,P.info? E=some i∧i.zero=some z∧i.size=e.wd∧i.bytes≤65536∧z.cells.size=e.wd
def Wt (P:Program)(E:TypeId)(n:Nat):Bool:=match P.info? E with
 | some i=>match i.zero with
  | some z=>i.size==n&&decide (i.bytes≤65536)&&z.cells.size==n
  | none=>false
 | none=>false
theorem QdG {P:Program}{E:TypeId}{e:Ty}(h:Wt P E e.wd=true):ElemInfo P E e:=by
 unfold Wt at h
 cases a:P.info? E with
 | none=>rw[a] at h; cases h
 | some i=>
  rw[a] at h
  simp only at h
  cases b:i.zero with
  | none=>rw[b] at h; cases h
  | some z=>
   rw[b] at h
   simp only[aM,beq_iff_eq,aS] at h
   exact ⟨i,z,a,b,h.1.1,h.1.2,h.2⟩
section
variable {E:TypeId}{e:Ty}{w:World}
theorem Own.row {fp:List Nat}{v:Value}{xs:List e.Den}(h:Own (.sl E e) w fp [v] xs):∃cs fps,w.ownsRow 0 E e.wd v xs.length cs∧OwnL (Own e w) fps cs xs∧((v.ownBlock=none∧fp=[]∧fps=[])∨∃g,v.ownBlock=some g∧fp=g :: fps):=by
 rcases h with ⟨rfl,h,f⟩ | ⟨g,a,b,fps,rfl,c,i,j,k,l,d⟩
 ·subst f
  simp only[aD,and_true] at h
  subst h
  exact ⟨[],[],World.ownsRow_nil _ _ _ _,⟨rfl,rfl⟩, .inl ⟨rfl,rfl,rfl⟩⟩
 ·simp only[aD,and_true] at c
  subst c
  refine ⟨_,fps,⟨?_, .inr ⟨g,a,b,rfl,aP _,i,j,k,l,rfl⟩⟩,d, .inr ⟨g,rfl,rfl⟩⟩
  exact d.len
theorem QkF {fps:List Nat}{v:Value}{cs:List Value}{xs:List e.Den}{n:Nat}(m:n=xs.length)(h:w.ownsRow 0 E e.wd v n cs)(c:OwnL (Own e w) fps cs xs):
 ∃fp,Own (.sl E e) w fp [v] xs∧((v.ownBlock=none∧fp=fps)∨∃g,v.ownBlock=some g∧fp=g :: fps):=by
 subst m
 rcases h.2 with ⟨rfl,d⟩ | ⟨g,a,b,rfl,_,f,i,j,k,l⟩
 ·obtain rfl:=bu d
  obtain ⟨rfl,_⟩:=c
  exact ⟨[], .inl ⟨rfl,rfl,rfl⟩, .inl ⟨rfl,rfl⟩⟩
 ·exact ⟨g :: fps, .inr ⟨g,a,b,fps,rfl,rfl,f,i,j,k,by rw[l]; exact c⟩, .inr ⟨g,rfl,rfl⟩⟩
theorem OwnL.one {fp:List Nat}:∀{xs:List e.Den} {fp:List Nat} {cs:List Value},OwnL (Own e w) fp cs xs→∀u∈cs,u.oneCell'=true
 | [],_,_,h=>by rw[h.2]; simp
 | _ :: _,_,_,⟨_,_,_,_,_,h2,h3,h4⟩=>by
  intro u a
  rw[h2] at a
  rcases aG.1 a with a | a
  ·exact Rep.one h3.rep u a
  ·exact OwnL.one (fp:=[]) h4 u a
theorem OwnL.lt {xs:List e.Den}{fp:List Nat}{cs:List Value}(h:OwnL (Own e w) fp cs xs):∀g∈fp,g < w.heap.size:=by
 induction xs generalizing fp cs with
 | nil=>rw[h.1]; simp
 | cons x xs d=>
  obtain ⟨f,i,c1,c2,rfl,rfl,b,c⟩:=h
  intro g a
  rcases aG.1 a with a | a
  ·exact Own.lt b g a
  ·exact d c g a
variable {P:Program}
def Ty.flat:Ty→Bool
 | .pr a b=>a.flat&&b.flat
 | .sl _ _=>false
 | _=>true
theorem Rep.own:∀{t:Ty} {w:World} {cs:List Value} {x:t.Den},Rep t w cs x→t.flat=true→Own t w [] cs x
 | .int,_,_,_,h,_=>⟨rfl,h⟩
 | .bool,_,_,_,h,_=>⟨rfl,h⟩
 | .str,_,_,_,h,_=>⟨rfl,h⟩
 | .u8,_,_,_,h,_=>⟨rfl,h⟩
 | .vl,_,_,_,h,_=>⟨rfl,h⟩
 | .sl _ _,_,_,_,_,h=>by cases h
 | .pr a b,_,_,_,⟨l,r,h,h1,h2⟩,hf=>by
  simp only[Ty.flat,aM] at hf
  exact ⟨[],[],l,r,rfl,h,Rep.own h1 hf.1,Rep.own h2 hf.2⟩
theorem Qfe (k:e.flat=true)(b:Nat):∀(ys:List e.Den) (o:Nat),(∀i x,ys[i]? =some x→∃c,Rep e w c x∧∀j u,c[j]? =some u→w.cell? ⟨b,o+i*e.wd+j,none⟩=some u)→
 ∃a,OwnL (Own e w) [] a ys∧∀j u,a[j]? =some u→w.cell? ⟨b,o+j,none⟩=some u
 | [],_,_=>⟨[],⟨rfl,rfl⟩,by simp⟩
 | y :: ys,o,h=>by
  obtain ⟨c,g,l⟩:=h 0 y rfl
  obtain ⟨a,m,n⟩:=Qfe k b ys (o+e.wd) (fun i x s=>by
   obtain ⟨f,p,q⟩:=h (i+1) x s
   refine ⟨f,p,fun j u d=> ?_⟩
   rw[← q j u d]
   congr 2
   rw[bT]
   omega)
  refine ⟨c++a,⟨[],[],c,a,rfl,rfl,g.own k,m⟩,fun j u d=> ?_⟩
  by_cases r:j < c.length
  ·rw[bf r] at d
   have:=l j u d
   simpa using this
  ·rw[bk (by omega)] at d
   rw[← n _ _ d]
   congr 2
   have:=g.len
   omega
theorem Rep.src {A:Option Addr}{n c M:Nat}{ys:List e.Den}(q:Rep (.sl E e) w [.slice A n c] ys)(m:e.flat=true):n=ys.length∧((A=none∧n=0)∨∃d a,A=some d∧FrsL e M M w a ys∧∀j u,a[j]? =some u→w.cell? (d.add j)=some u):=by
 obtain ⟨s,t,g,v,x,h⟩:=q
 simp only[aD,Value.slice.injEq,and_true] at g
 obtain ⟨rfl,rfl,rfl⟩:=g
 refine ⟨rfl, ?_⟩
 rcases Nat.eq_zero_or_pos ys.length with f | p
 ·cases A with
  | none=>exact .inl ⟨rfl,f⟩
  | some d=>
   obtain rfl:=bu f
   exact .inr ⟨d,[],rfl,⟨[],⟨rfl,rfl⟩,bL,by simp⟩,by simp⟩
 ·obtain ⟨b,o,rfl,i⟩:=h p
  obtain ⟨a,k,l⟩:=Qfe m b ys o i
  exact .inr ⟨⟨b,o,none⟩,a,rfl,⟨[],k,bL,by simp⟩,fun j u r=>by rw[Addr.add_lit]; exact l j u r⟩
theorem Qw8 (w:World)(E:TypeId)(e:Ty):Frs (.sl E e) w.heap.size (w.heap.size+1) (w.alloc (.cells #[] E)) [.slice (some ⟨w.heap.size,0,none⟩) 0 0] []:=
 ⟨[w.heap.size], .inr ⟨w.heap.size,0, #[],[],rfl,rfl,heap_alloc_new w _,aL _,aP _,by simp,by simpa using ⟨rfl,rfl⟩⟩,by simp,by simp⟩
end
end Go.Proofs.YtndabgcpnmeeoaaGreat
namespace Go.Proofs.YtndabgcpnmeeoaaGreat
set_option maxHeartbeats 4000000
set_option maxRecDepth 100000
open Go.RowKit
theorem gx {α:Type _}(l:List α)(k:Nat)(h:k < l.length:=by omega):∃z,l[k]? =some z:=⟨_,ap h⟩
theorem gs (l:ByteArray)(k:Nat)(h:k < l.size:=by omega):∃z,l[k]? =some z:=⟨_,dH l k h⟩
def Sub (N:Nat→Prop)(w wN:World):Prop:=∀a v,wN.cell? a=some v→N a.block∧w.cell? a=some v
def Rd (N:Nat→Prop)(t:Ty)(w:World)(cs:List Value)(x:t.Den):Prop:=∃wN,Sub N w wN∧Rep t wN cs x
section
variable {N N':Nat→Prop}{t:Ty}{w w' wN:World}{cs:List Value}{x:t.Den}
theorem Sub.mono (h:Sub N w wN)(k:∀g,N g→N' g∧w'.heap[g]? =w.heap[g]?):Sub N' w' wN:=
 fun a v e=>by
  obtain ⟨b,c⟩:=h a v e
  exact ⟨(k _ b).1,by rw[World.cell?_of_block (k _ b).2]; exact c⟩
theorem Rd.mono (h:Rd N t w cs x)(k:∀g,N g→N' g∧w'.heap[g]? =w.heap[g]?):Rd N' t w' cs x:=by
 obtain ⟨wN,a,b⟩:=h
 exact ⟨wN,a.mono k,b⟩
theorem Rd.rep (h:Rd N t w cs x):Rep t w cs x:=by
 obtain ⟨wN,b,c⟩:=h
 exact c.kp fun a v e=>(b a v e).2
theorem Rep.rd (h:Rep t w cs x)(b:∀g,g < w.heap.size→N g):Rd N t w cs x:=⟨w,fun a v e=>⟨b _ (cY w a e),e⟩,h⟩
theorem QaJ (N:Nat→Prop)(w:World):∃d,Sub N w d∧∀g,N g→d.heap[g]? =w.heap[g]? :=by
 classical
 refine ⟨{w with heap:=w.heap.mapIdx fun g o=>if N g then o else .deferred none},fun a v e=> ?_,fun g f=> ?_⟩
 ·by_cases h:N a.block
  ·refine ⟨h, ?_⟩
   rw[← e]
   simp only[World.cell?,Array.getElem?_mapIdx]
   cases w.heap[a.block]? with
   | none=>rfl
   | some o=>simp[h]
  ·exfalso
   simp only[World.cell?,Array.getElem?_mapIdx] at e
   cases b:w.heap[a.block]? with
   | none=>simp[b] at e
   | some o=>simp[b,h] at e
 ·simp only[Array.getElem?_mapIdx]
  cases w.heap[g]? with
  | none=>rfl
  | some o=>simp[f]
theorem Sub.kp {b:World}(h:Sub N w wN)(f:∀g,N g→b.heap[g]? =w.heap[g]?):Kp wN b:=fun a v e=>by
 obtain ⟨c,d⟩:=h a v e
 rw[World.cell?_of_block (f _ c)]; exact d
theorem Own.rd {fp:List Nat}(h:Own t w fp cs x)(c:∀g∈fp,N g):Rd N t w cs x:=by
 obtain ⟨e,a,b⟩:=QaJ N w
 exact ⟨e,a,(h.keep fun g d=>b g (c g d)).rep⟩
end
theorem Rep.own0:∀{t:Ty} {w w':World} {cs:List Value} {x:t.Den},Rep t w cs x→t.flat=true→Own t w' [] cs x
 | .int,_,_,_,_,h,_=>⟨rfl,h.1,h.2⟩
 | .bool,_,_,_,_,h,_=>⟨rfl,h⟩
 | .str,_,_,_,_,h,_=>⟨rfl,h.1,h.2⟩
 | .u8,_,_,_,_,h,_=>⟨rfl,h⟩
 | .vl,_,_,_,_,h,_=>⟨rfl,h⟩
 | .sl _ _,_,_,_,_,_,c=>by cases c
 | .pr a b,w,w',_,_,⟨l,r,h1,h2,h3⟩,c=>by
  have c:(a.flat&&b.flat)=true:=c
  rw[aM] at c
  exact ⟨[],[],l,r,rfl,h1,Rep.own0 h2 c.1,Rep.own0 h3 c.2⟩
theorem Rep.rd0 {N:Nat→Prop}{t:Ty}{w w':World}{cs:List Value}{x:t.Den}(h:Rep t w cs x)(a:t.flat=true):Rd N t w' cs x:=
 (h.own0 (w':=w') a).rd (by simp)
theorem Rd.pr {N:Nat→Prop}{a b:Ty}{w:World}{l r:List Value}{x:a.Den}{y:b.Den}(h:Rd N a w l x)(k:Rd N b w r y):Rd N (.pr a b) w (l++r) (x,y):=by
 obtain ⟨m,j,c⟩:=QaJ N w
 obtain ⟨n,d,e⟩:=h
 obtain ⟨w2,f,i⟩:=k
 exact ⟨m,j,l,r,rfl,e.kp (d.kp c),i.kp (f.kp c)⟩
inductive LV where
  | val (v:Value)
  | dat (t:Ty) (x:t.Den)
  | ref (q:Nat)
  | ptr (q off:Nat)
  | ept (q wd i j:Nat)
  | sub (q wd lo n:Nat)
  | elt (t:Ty) (x:t.Den) (off:Nat)
  | clo (f:FuncId) (qs:List Nat)
inductive PV where
  | cm (b:Bool) (ls:List LV)
  | tup (cs:List (Bool×List LV))
@[reducible] def lf (l:LV):PV:= .cm false [l]
@[reducible] def ag (ls:List LV):PV:= .cm true ls
@[reducible] def dI (n:Int):LV:= .dat .int n
@[reducible] def dB (b:Bool):LV:= .dat .bool b
@[reducible] def dS (s:ByteArray):LV:= .dat .str s
structure Rsc where
  rel:(Nat→Prop)→World→List Nat→Value→Prop
  fl:Bool
  keep:∀{N N':Nat→Prop} {w w':World} {f:List Nat} {v:Value},rel N w f v→(∀g∈f,w'.heap[g]? =w.heap[g]?)→(∀g,N g→N' g∧w'.heap[g]? =w.heap[g]?)→rel N' w' f v
  lt:∀{N:Nat→Prop} {w:World} {f:List Nat} {v:Value},rel N w f v→∀g∈f,g < w.heap.size
  one:∀{N:Nat→Prop} {w:World} {f:List Nat} {v:Value},rel N w f v→v.oneCell'=true
  noN:fl=true→∀{N N':Nat→Prop} {w:World} {f:List Nat} {v:Value},rel N w f v→rel N' w f v
inductive Ent where
  | box (E:TypeId) (cs:List LV)
  | arr (E:TypeId) (e:Ty) (xs:List e.Den)
  | obx (E:TypeId) (wd n:Nat) (ls:List LV) (ov:List (Nat×LV))
  | mp (kb:Bool) (k:Ty) (vb:Bool) (v:Ty) (m:List (k.Den×v.Den))
  | bys (E:TypeId) (l:List UInt8)
  | pl (o:Bool) (e:Ty) (vs:List Hdr) (f:Hdr→e.Den)
  | fz (E:TypeId) (e:Ty) (xs:List e.Den)
  | res (R:Rsc)
@[reducible] def Tab:=List (Nat×Option Ent)
structure St where
  tm:List (Nat×PV)
  tab:Tab
structure Gh where
  h:Nat→Value
  f:Nat→List Nat
  N:Nat→Prop
def lk {α:Type _}:List (Nat×α)→Nat→Option α
 | [],_=>none
 | (j,x) :: l,i=>match Nat.beq i j with
  | true=>some x
  | false=>lk l i
theorem WB {α:Type _}(j:Nat)(x:α)(l:List (Nat×α))(i:Nat):lk ((j,x) :: l) i=if i=j then some x else lk l i:=by
 by_cases h:i=j
 ·subst h; simp[lk]
 ·have:Nat.beq i j=false:=by
   cases a:Nat.beq i j with
   | true=>exact absurd (bg a) h
   | false=>rfl
  simp[lk,this,h]
def Tab.ent (T:Tab)(q:Nat):Option Ent:=match lk T q with
 | some (some e)=>some e
 | _=>none
theorem Qd (j:Nat)(x:Option Ent)(T:Tab)(q:Nat):Tab.ent ((j,x) :: T) q=if q=j then x else T.ent q:=by
 unfold Tab.ent
 rw[WB]
 by_cases h:q=j
 ·simp[h]; cases x <;> rfl
 ·simp[h]
def Tab.al (T:Tab)(q:Nat):Prop:=∃e,T.ent q=some e
def LV.tags:LV→List Nat
 | .ref q=>[q]
 | .ptr q _=>[q]
 | .ept q _ _ _=>[q]
 | .sub q _ _ _=>[q]
 | .clo _ qs=>qs
 | .val _=>[]
 | .dat _ _=>[]
 | .elt _ _ _=>[]
def QJ:List LV→List Nat
 | []=>[]
 | l :: ls=>l.tags++QJ ls
def VJ:List (Bool×List LV)→List Nat
 | []=>[]
 | c :: cs=>QJ c.2++VJ cs
def ovr (ls:List LV):List (Nat×LV)→List LV
 | []=>ls
 | p :: ov=>(ovr ls ov).set p.1 p.2
def QaP:List (Nat×LV)→List Nat
 | []=>[]
 | p :: ov=>p.2.tags++QaP ov
theorem QjT {ls:List LV}{p:Nat}{l:LV}:∀q∈QJ (ls.set p l),q∈l.tags∨q∈QJ ls:=by
 induction ls generalizing p with
 | nil=>intro q a; exact .inr (by simpa using a)
 | cons x ls b=>
  cases p with
  | zero=>
   intro q a
   simp only[List.set_cons_zero,QJ,aG] at a
   rcases a with h | h
   ·exact .inl h
   ·exact .inr (by simp[QJ,h])
  | succ p=>
   intro q a
   simp only[cv,QJ,aG] at a
   rcases a with h | h
   ·exact .inr (by simp[QJ,h])
   ·rcases b q h with h | h
    ·exact .inl h
    ·exact .inr (by simp[QJ,h])
theorem Qfz {ls:List LV}(h:QJ ls=[]):∀{b:List (Nat×LV)},∀q∈QJ (ovr ls b),q∈QaP b
 | [],q,hq=>by rw[show ovr ls []=ls from rfl,h] at hq; cases hq
 | p :: b,q,hq=>by
  rcases QjT q hq with a | a
  ·exact aH _ a
  ·exact aN _ (Qfz h q a)
def PV.tags:PV→List Nat
 | .cm _ ls=>QJ ls
 | .tup cs=>VJ cs
def Ent.tags:Ent→List Nat
 | .box _ cs=>QJ cs
 | .arr _ _ _=>[]
 | .obx _ _ _ _ ov=>QaP ov
 | .mp _ _ _ _ _=>[]
 | .bys _ _=>[]
 | .pl _ _ _ _=>[]
 | .fz _ _ _=>[]
 | .res _=>[]
def Qxx (n:Nat):List Nat→Bool
 | []=>true
 | q :: qs=>Nat.blt q n&&Qxx n qs
def SubR (h:Value)(wd lo n:Nat)(v:Value):Prop:=∃B m c,h= .slice B m c∧v= .slice (if c=lo then B else B.map (·.add (lo*wd))) n (c - lo)
section
variable (al:Nat→Prop)(gh:Gh)(w:World)
def LVR:LV→Value→Prop
 | .val u,v=>v=u
 | .dat t x,v=>Rd gh.N t w [v] x
 | .ref q,v=>al q→v=gh.h q
 | .ptr q off,v=>al q→∃g,gh.h q= .pointer (some ⟨g,0,none⟩)∧v= .pointer (some ⟨g,off,none⟩)
 | .ept q wd i j,v=>al q→∃g n c,gh.h q= .slice (some ⟨g,0,none⟩) n c∧v= .pointer (some ⟨g,i*wd+j,none⟩)
 | .sub q wd lo n,v=>al q→SubR (gh.h q) wd lo n v
 | .elt t x off,v=>∃b o ds wN,v= .pointer (some ⟨b,o+off,none⟩)∧Sub gh.N w wN∧Rep t wN ds x∧∀j u,ds[j]? =some u→wN.cell? ⟨b,o+j,none⟩=some u
 | .clo f qs,v=>(∀q∈qs,al q)→v= .func (.func f) #[] (qs.map gh.h).toArray
def LVs:List LV→List Value→Prop
 | [],vs=>vs=[]
 | l :: ls,vs=>∃v vs',vs=v :: vs'∧LVR al gh w l v∧LVs ls vs'
def CmR:Bool×List LV→Value→Prop
 | (true,ls),v=>∃vs,v= .agg vs.toArray∧LVs al gh w ls vs
 | (false,ls),v=>∃l,ls=[l]∧LVR al gh w l v
def CmsR:List (Bool×List LV)→List Value→Prop
 | [],vs=>vs=[]
 | c :: cs,vs=>∃v vs',vs=v :: vs'∧CmR al gh w c v∧CmsR cs vs'
def PVR:PV→Value→Prop
 | .cm b ls,v=>CmR al gh w (b,ls) v
 | .tup cs,v=>∃vs,v= .tuple vs.toArray∧CmsR al gh w cs vs
def LO:LV→List Nat→Value→Prop
 | .dat t x,f,v=>Own t w f [v] x
 | .ref q,f,v=>f=[]∧v.oneCell'=true∧(al q→v=gh.h q)
 | .val u,f,v=>f=[]∧v=u∧u.oneCell'=true
 | _,_,_=>False
def LOs:List LV→List Nat→List Value→Prop
 | [],f,cs=>f=[]∧cs=[]
 | l :: ls,f,cs=>∃f1 f2 v cs',f=f1++f2∧cs=v :: cs'∧LO al gh w l f1 v∧LOs ls f2 cs'
def MV:Bool→(t:Ty)→Value→t.Den→Prop
 | true,t,v,x=>∃cs,v= .agg cs.toArray∧Rd gh.N t w cs x
 | false,t,v,x=>Rd gh.N t w [v] x
def Born (es:List MapEntry)(clock:Nat):Prop:=(∀x∈es,x.born < clock)∧(es.map (·.born)).Nodup
def MpL (kb:Bool)(k:Ty)(vb:Bool)(v:Ty):List MapEntry→List (k.Den×v.Den)→Prop
 | [],m=>m=[]
 | e :: es,m=>∃x y m',m=(x,y) :: m'∧MV gh w kb k e.key x∧MV gh w vb v e.val y∧MpL kb k vb v es m'
def Row (w:World)(g:Nat)(cur:Array Value)(E:TypeId):Prop:=∃f:Nat×Nat,w.heap[g]? =some (.cells cur E f)∧(f=(0,0)∨f=(cur.size,cur.size+1))
def FzL (N:Nat→Prop)(w:World)(e:Ty):List Hdr→List e.Den→Prop
 | [],xs=>xs=[]
 | v :: vs,xs=>∃x r,xs=x :: r∧Rd N e w [hdV v] x∧FzL N w e vs r
def EntR (q:Nat):Ent→Prop
 | .box E cs=>∃g cur,gh.h q= .pointer (some ⟨g,0,none⟩)∧gh.f q=[g]∧w.heap[g]? =some (.cells cur E (0,0))∧LVs al gh w cs cur.toList
 | .arr E e xs=>Own (.sl E e) w (gh.f q) [gh.h q] xs
 | .obx E wd n ls0 ov=>QJ ls0=[]∧∃g cap cur fps,gh.h q= .slice (some ⟨g,0,none⟩) n cap∧gh.f q=g :: fps∧w.heap[g]? =some (.cells cur E (0,0))∧n≤cap∧cap≤maxLen∧cur.size=cap*wd∧(ovr ls0 ov).length=n*wd∧LOs al gh w (ovr ls0 ov) fps (cur.toList.take (n*wd))
 | .bys E l=>∃g cap cur,gh.h q= .slice (some ⟨g,0,none⟩) l.length cap∧gh.f q=[g]∧Row w g cur E∧l.length≤cap∧cap≤maxLen∧cur.size=cap∧cur.toList.take l.length=l.map fun b=>Value.int .u8 b.toNat
 | .fz E e xs=>∃vs,Own (.sl E .vl) w (gh.f q) [gh.h q] vs∧FzL gh.N w e vs xs
 | .res R=>R.rel gh.N w (gh.f q) (gh.h q)
 | .pl true e vs f=>gh.h q= .slice none 0 0∧OwnL (Own e w) (gh.f q) (vs.map hdV) (vs.map f)
 | .pl false e vs f=>gh.h q= .slice none 0 0∧gh.f q=[]∧∀v∈vs,Rd gh.N e w [hdV v] (f v)
 | .mp kb k vb v m=>∃g es clock,gh.h q= .map (some g)∧gh.f q=[g]∧w.heap[g]? =some (.map es clock)∧Born es.toList clock∧m.Pairwise (fun p q=>p.1≠q.1)∧MpL gh w kb k vb v es.toList m
end
section
variable {w w':World}{g:Nat}{cur:Array Value}{E:TypeId}
theorem Row.keep (h:Row w g cur E)(k:w'.heap[g]? =w.heap[g]?):Row w' g cur E:=by
 obtain ⟨f,a,b⟩:=h
 exact ⟨f,k.trans a,b⟩
theorem Row.lt (h:Row w g cur E):g < w.heap.size:=by
 obtain ⟨f,a,_⟩:=h
 exact (bA.1 a).1
theorem Row.cell (h:Row w g cur E)(i:Nat):w.cell? ⟨g,i,none⟩=cur[i]? :=by
 obtain ⟨f,a,_⟩:=h
 simp[World.cell?,a]
theorem Row.soft (h:Row w g cur E){i:Nat}(hi:i < cur.size):w.frozen? ⟨g,i,none⟩=false:=by
 obtain ⟨f,a,b⟩:=h
 rcases b with rfl | rfl
 ·simp[World.frozen?,a]
 ·simp only[World.frozen?,a]
  simp
  omega
end
section
variable {al al':Nat→Prop}{gh gh':Gh}{w w':World}
theorem LVR.mono {l:LV}{v:Value}(h:LVR al gh w l v)(d:∀q∈l.tags,al' q→al q∧gh'.h q=gh.h q)(r:∀g,gh.N g→gh'.N g∧w'.heap[g]? =w.heap[g]?):LVR al' gh' w' l v:=by
 cases l with
 | val u=>exact h
 | dat t x=>exact Rd.mono h r
 | ref q=>intro k; obtain ⟨a,c⟩:=d q (by simp[LV.tags]) k; rw[c]; exact h a
 | ptr q p=>intro k; obtain ⟨a,c⟩:=d q (by simp[LV.tags]) k; rw[c]; exact h a
 | ept q B i j=>intro k; obtain ⟨a,c⟩:=d q (by simp[LV.tags]) k; rw[c]; exact h a
 | sub q B C n=>intro k; obtain ⟨a,c⟩:=d q (by simp[LV.tags]) k; rw[c]; exact h a
 | elt t x p=>obtain ⟨b,o,s,wN,m,y,z,A⟩:=h; exact ⟨b,o,s,wN,m,y.mono r,z,A⟩
 | clo f D=>
  intro k
  have m:v=_:=h fun q e=>(d q (by simpa [LV.tags] using e) (k q e)).1
  rw[m]
  congr 1
  refine congrArg List.toArray (cJ fun q e=> ?_)
  exact (d q (by simpa [LV.tags] using e) (k q e)).2.symm
theorem LVs.mono {ls:List LV}{vs:List Value}(h:LVs al gh w ls vs)(c:∀q∈QJ ls,al' q→al q∧gh'.h q=gh.h q)(f:∀g,gh.N g→gh'.N g∧w'.heap[g]? =w.heap[g]?):LVs al' gh' w' ls vs:=by
 induction ls generalizing vs with
 | nil=>exact h
 | cons l ls i=>
  obtain ⟨v,b,rfl,d,e⟩:=h
  exact ⟨v,b,rfl,d.mono (fun q a=>c q (by simp[QJ,a])) f,i e fun q a=>c q (by simp[QJ,a])⟩
theorem CmR.mono {c:Bool×List LV}{v:Value}(h:CmR al gh w c v)(e:∀q∈QJ c.2,al' q→al q∧gh'.h q=gh.h q)(d:∀g,gh.N g→gh'.N g∧w'.heap[g]? =w.heap[g]?):CmR al' gh' w' c v:=by
 obtain ⟨b,j⟩:=c
 cases b with
 | true=>obtain ⟨i,rfl,a⟩:=h; exact ⟨i,rfl,a.mono e d⟩
 | false=>obtain ⟨l,rfl,a⟩:=h; exact ⟨l,rfl,a.mono (fun q f=>e q (by simp[QJ,f])) d⟩
theorem CmsR.mono {cs:List (Bool×List LV)}{vs:List Value}(h:CmsR al gh w cs vs)(d:∀q∈VJ cs,al' q→al q∧gh'.h q=gh.h q)(i:∀g,gh.N g→gh'.N g∧w'.heap[g]? =w.heap[g]?):CmsR al' gh' w' cs vs:=by
 induction cs generalizing vs with
 | nil=>exact h
 | cons c cs j=>
  obtain ⟨v,b,rfl,e,f⟩:=h
  exact ⟨v,b,rfl,e.mono (fun q a=>d q (by simp[VJ,a])) i,j f fun q a=>d q (by simp[VJ,a])⟩
theorem PVR.mono {pv:PV}{v:Value}(h:PVR al gh w pv v)(c:∀q∈pv.tags,al' q→al q∧gh'.h q=gh.h q)(a:∀g,gh.N g→gh'.N g∧w'.heap[g]? =w.heap[g]?):PVR al' gh' w' pv v:=by
 cases pv with
 | cm b f=>exact CmR.mono h c a
 | tup cs=>obtain ⟨e,rfl,d⟩:=h; exact ⟨e,rfl,d.mono c a⟩
theorem LOs.mono {ls:List LV}{f:List Nat}{cs:List Value}(h:LOs al gh w ls f cs)(d:∀q∈QJ ls,al' q→al q∧gh'.h q=gh.h q)(hb:∀g∈f,w'.heap[g]? =w.heap[g]?):LOs al' gh' w' ls f cs:=by
 induction ls generalizing f cs with
 | nil=>exact h
 | cons l ls n=>
  obtain ⟨e,i,v,b,rfl,rfl,a,j⟩:=h
  refine ⟨e,i,v,b,rfl,rfl, ?_,n j (fun q m=>d q (by simp[QJ,m])) fun g c=>hb g (aN _ c)⟩
  cases l with
  | dat t x=>exact Own.keep a fun g c=>hb g (aH _ c)
  | ref q=>
   refine ⟨a.1,a.2.1,fun k=> ?_⟩
   obtain ⟨o,p⟩:=d q (by simp[QJ,LV.tags]) k
   rw[p]; exact a.2.2 o
  | val u=>exact a
  | _=>exact a.elim
theorem LOs.lt {ls:List LV}{f:List Nat}{cs:List Value}(h:LOs al gh w ls f cs):∀g∈f,g < w.heap.size:=by
 induction ls generalizing f cs with
 | nil=>rw[h.1]; simp
 | cons l ls e=>
  obtain ⟨i,j,v,c,rfl,rfl,b,d⟩:=h
  intro g a
  rcases aG.1 a with a | a
  ·cases l with
   | dat t x=>exact Own.lt b g a
   | ref q=>rw[b.1] at a; cases a
   | val u=>rw[b.1] at a; cases a
   | _=>exact b.elim
  ·exact e d g a
theorem MV.mono {b:Bool}{t:Ty}{v:Value}{x:t.Den}(h:MV gh w b t v x)(a:∀g,gh.N g→gh'.N g∧w'.heap[g]? =w.heap[g]?):MV gh' w' b t v x:=by
 cases b with
 | true=>obtain ⟨cs,c,d⟩:=h; exact ⟨cs,c,d.mono a⟩
 | false=>exact Rd.mono h a
theorem MpL.mono {kb vb:Bool}{k v:Ty}{es:List MapEntry}{m:List (k.Den×v.Den)}(h:MpL gh w kb k vb v es m)(a:∀g,gh.N g→gh'.N g∧w'.heap[g]? =w.heap[g]?):MpL gh' w' kb k vb v es m:=by
 induction es generalizing m with
 | nil=>exact h
 | cons e es i=>
  obtain ⟨x,y,j,b,c,d,f⟩:=h
  exact ⟨x,y,j,b,c.mono a,d.mono a,i f⟩
theorem FzL.mono {N N':Nat→Prop}{e:Ty}{vs:List Hdr}{xs:List e.Den}(h:FzL N w e vs xs)(d:∀g,N g→N' g∧w'.heap[g]? =w.heap[g]?):FzL N' w' e vs xs:=by
 induction vs generalizing xs with
 | nil=>exact h
 | cons v vs f=>obtain ⟨x,r,a,b,c⟩:=h; exact ⟨x,r,a,b.mono d,f c⟩
theorem EntR.mono {q:Nat}{e:Ent}(h:EntR al gh w q e)(B:∀r∈e.tags,al' r→al r∧gh'.h r=gh.h r)(s:∀g,gh.N g→gh'.N g∧w'.heap[g]? =w.heap[g]?)
 (hh:gh'.h q=gh.h q) (hf:gh'.f q=gh.f q) (hb:∀g∈gh.f q,w'.heap[g]? =w.heap[g]?):EntR al' gh' w' q e:=by
 cases e with
 | box E cs=>
  obtain ⟨g,cur,b,a,j,p⟩:=h
  exact ⟨g,cur,hh.trans b,hf.trans a,(hb g (by rw[a]; simp)).trans j,p.mono B s⟩
 | arr E e P=>
  unfold EntR
  rw[hh,hf]
  exact Own.keep h hb
 | obx E V n O T=>
  obtain ⟨u,g,d,cur,fps,b,a,j,p,y,G,H,I⟩:=h
  exact ⟨u,g,d,cur,fps,hh.trans b,hf.trans a,(hb g (by rw[a]; simp)).trans j,p,y,G,H,I.mono (fun r L=>B r (Qfz u r L)) fun F A=>hb F (by rw[a]; exact ax _ A)⟩
 | mp S k U v m=>
  obtain ⟨g,D,i,b,a,j,u,p,y⟩:=h
  exact ⟨g,D,i,hh.trans b,hf.trans a,(hb g (by rw[a]; simp)).trans j,u,p,y.mono s⟩
 | bys E l=>
  obtain ⟨g,d,cur,b,a,j,p⟩:=h
  exact ⟨g,d,cur,hh.trans b,hf.trans a,j.keep (hb g (by rw[a]; simp)),p⟩
 | pl o e C f=>
  cases o with
  | true=>exact ⟨hh.trans h.1,by rw[hf]; exact OwnL.mono h.2 fun Q c x z K=>Own.keep K fun g J=>hb g (z g J)⟩
  | false=>exact ⟨hh.trans h.1,hf.trans h.2.1,fun v M=>(h.2.2 v M).mono s⟩
 | fz E e P=>
  obtain ⟨C,b,a⟩:=h
  exact ⟨C,by rw[hh,hf]; exact Own.keep b hb,a.mono s⟩
 | res R=>
  unfold EntR
  rw[hh,hf]
  exact R.keep h hb s
theorem EntR.lt {q:Nat}{e:Ent}(h:EntR al gh w q e):∀g∈gh.f q,g < w.heap.size:=by
 cases e with
 | box E cs=>
  obtain ⟨g,cur,i,d,b,r⟩:=h
  rw[d]
  intro c a
  obtain rfl:=aC.1 a
  rcases dp c w.heap.size with k | k
  ·exact k
  ·rw[Array.getElem?_eq_none k] at b; cases b
 | arr E e A=>exact Own.lt h
 | obx E K n y I=>
  obtain ⟨C,g,j,cur,fps,i,d,b,r,D,F,G,s⟩:=h
  rw[d]
  intro c a
  rcases aE.1 a with rfl | a
  ·rcases dp c w.heap.size with k | k
   ·exact k
   ·rw[Array.getElem?_eq_none k] at b; cases b
  ·exact s.lt c a
 | bys E l=>
  obtain ⟨g,j,cur,i,d,b,r⟩:=h
  rw[d]
  intro c a
  obtain rfl:=aC.1 a
  exact b.lt
 | pl o e z f=>
  cases o with
  | true=>exact OwnL.lt h.2
  | false=>rw[h.2.1]; intro g u; cases u
 | fz E e A=>obtain ⟨z,i,_⟩:=h; exact Own.lt i
 | res R=>exact R.lt h
 | mp H k J v m=>
  obtain ⟨g,B,p,i,d,b,r⟩:=h
  rw[d]
  intro c a
  obtain rfl:=aC.1 a
  rcases dp c w.heap.size with k | k
  ·exact k
  ·rw[Array.getElem?_eq_none k] at b; cases b
theorem LVs.len {ls:List LV}{vs:List Value}(h:LVs al gh w ls vs):vs.length=ls.length:=by
 induction ls generalizing vs with
 | nil=>rw[show vs=[] from h]; rfl
 | cons l ls b=>obtain ⟨v,c,rfl,_,a⟩:=h; simp[b a]
theorem LVs.get {ls:List LV}{vs:List Value}(h:LVs al gh w ls vs){i:Nat}{l:LV}(a:ls[i]? =some l):∃v,vs[i]? =some v∧LVR al gh w l v:=by
 induction ls generalizing vs i with
 | nil=>simp at a
 | cons f ls d=>
  obtain ⟨v,e,rfl,b,c⟩:=h
  cases i with
  | zero=>simp at a; subst a; exact ⟨v,rfl,b⟩
  | succ i=>exact d c (by simpa using a)
theorem LVs.app {b e:List LV}{a c:List Value}(h:LVs al gh w b a)(k:LVs al gh w e c):LVs al gh w (b++e) (a++c):=by
 induction b generalizing a with
 | nil=>rw[show a=[] from h]; exact k
 | cons l m j=>obtain ⟨v,d,rfl,f,i⟩:=h; exact ⟨v,d++c,rfl,f,j i⟩
theorem Qgw {c d:List LV}{vs:List Value}(h:LVs al gh w (c++d) vs):∃e f,vs=e++f∧LVs al gh w c e∧LVs al gh w d f:=by
 induction c generalizing vs with
 | nil=>exact ⟨[],vs,rfl,rfl,h⟩
 | cons l p n=>
  obtain ⟨v,o,rfl,i,j⟩:=h
  obtain ⟨a,b,rfl,k,m⟩:=n j
  exact ⟨v :: a,b,rfl,⟨v,a,rfl,i,k⟩,m⟩
theorem LVs.take {ls:List LV}{vs:List Value}(h:LVs al gh w ls vs)(n:Nat):LVs al gh w (ls.take n) (vs.take n):=by
 induction ls generalizing vs n with
 | nil=>rw[show vs=[] from h]; simp[LVs]
 | cons l ls c=>
  obtain ⟨v,d,rfl,a,b⟩:=h
  cases n with
  | zero=>simp[LVs]
  | succ n=>exact ⟨v,_,rfl,a,c b n⟩
theorem LVs.drop {ls:List LV}{vs:List Value}(h:LVs al gh w ls vs)(n:Nat):LVs al gh w (ls.drop n) (vs.drop n):=by
 induction ls generalizing vs n with
 | nil=>rw[show vs=[] from h]; simp[LVs]
 | cons l ls d=>
  obtain ⟨v,a,rfl,c,b⟩:=h
  cases n with
  | zero=>exact ⟨v,a,rfl,c,b⟩
  | succ n=>exact d b n
theorem LVs.one {ls:List LV}{v:Value}(h:LVs al gh w ls [v]){l:LV}(c:ls=[l]):LVR al gh w l v:=by
 subst c
 obtain ⟨_,_,a,b,_⟩:=h
 simp only[aD] at a
 obtain ⟨rfl,rfl⟩:=a
 exact b
end
def leaves:(t:Ty)→t.Den→List LV
 | .int,x=>[.dat .int x]
 | .bool,x=>[.dat .bool x]
 | .str,x=>[.dat .str x]
 | .u8,x=>[.dat .u8 x]
 | .vl,x=>[.dat .vl x]
 | .sl E e,x=>[.dat (.sl E e) x]
 | .pr a b,x=>leaves a x.1++leaves b x.2
theorem YC:∀(t:Ty) (x:t.Den),(leaves t x).length=t.wd
 | .int,_=>rfl
 | .bool,_=>rfl
 | .str,_=>rfl
 | .u8,_=>rfl
 | .vl,_=>rfl
 | .sl _ _,_=>rfl
 | .pr a b,x=>by simp[leaves,YC a,YC b]
theorem Rd.leaves {al:Nat→Prop}{gh:Gh}{w:World}:∀{t:Ty} {cs:List Value} {x:t.Den},Rd gh.N t w cs x→LVs al gh w (leaves t x) cs
 | .int,cs,x,h=>by
  obtain ⟨wN,d,c⟩:=h; have:=c.1; subst this; exact ⟨_,[],rfl,⟨wN,d,c⟩,rfl⟩
 | .bool,cs,x,h=>by
  obtain ⟨wN,d,c⟩:=h; have c:cs=_:=c; subst c; exact ⟨_,[],rfl,⟨wN,d,rfl⟩,rfl⟩
 | .str,cs,x,h=>by
  obtain ⟨wN,d,c⟩:=h; have:=c.1; subst this; exact ⟨_,[],rfl,⟨wN,d,c⟩,rfl⟩
 | .u8,cs,x,h=>by
  obtain ⟨wN,d,c⟩:=h; have c:cs=_:=c; subst c; exact ⟨_,[],rfl,⟨wN,d,rfl⟩,rfl⟩
 | .vl,cs,x,h=>by
  obtain ⟨wN,d,c⟩:=h; have c:cs=_:=c; subst c; exact ⟨_,[],rfl,⟨wN,d,rfl⟩,rfl⟩
 | .sl E e,cs,x,h=>by
  have i:=h.rep.len
  match cs,i with
  | [v],_=>exact ⟨v,[],rfl,h,rfl⟩
 | .pr a b,cs,x,h=>by
  obtain ⟨wN,d,l,r,rfl,c,f⟩:=h
  exact LVs.app (Rd.leaves ⟨wN,d,c⟩) (Rd.leaves ⟨wN,d,f⟩)
theorem LVs.rd {al:Nat→Prop}{gh:Gh}{w:World}:∀{t:Ty} {cs:List Value} {x:t.Den},LVs al gh w (Go.Proofs.YtndabgcpnmeeoaaGreat.leaves t x) cs→Rd gh.N t w cs x
 | .int,cs,x,h=>by obtain ⟨v,f,rfl,c,d⟩:=h; rw[show f=[] from d]; exact c
 | .bool,cs,x,h=>by obtain ⟨v,f,rfl,c,d⟩:=h; rw[show f=[] from d]; exact c
 | .str,cs,x,h=>by obtain ⟨v,f,rfl,c,d⟩:=h; rw[show f=[] from d]; exact c
 | .u8,cs,x,h=>by obtain ⟨v,f,rfl,c,d⟩:=h; rw[show f=[] from d]; exact c
 | .vl,cs,x,h=>by obtain ⟨v,f,rfl,c,d⟩:=h; rw[show f=[] from d]; exact c
 | .sl E e,cs,x,h=>by obtain ⟨v,f,rfl,c,d⟩:=h; rw[show f=[] from d]; exact c
 | .pr a b,cs,x,h=>by
  obtain ⟨i,j,rfl,c,d⟩:=Qgw h
  exact Rd.pr (LVs.rd c) (LVs.rd d)
structure Cx (T:Tab) (gh:Gh) (w:World):Prop where
  en:∀q e,T.ent q=some e→EntR T.al gh w q e
  dj:∀q q',T.al q→T.al q'→q≠q'→∀g∈gh.f q,g∉gh.f q'
  nd:∀q,T.al q→(gh.f q).Nodup
  no:∀q,T.al q→∀g∈gh.f q,¬gh.N g
  nl:∀g,gh.N g→g < w.heap.size
theorem Cx.lt {T:Tab}{gh:Gh}{w:World}(h:Cx T gh w){q:Nat}(b:T.al q):∀g∈gh.f q,g < w.heap.size:=by
 obtain ⟨e,a⟩:=b
 exact (h.en q e a).lt
structure Grw (w w':World):Prop where
  os:w'.os=w.os
  tape:w'.tape=w.tape
  output:w'.output=w.output
  size:w.heap.size≤w'.heap.size
theorem QV (w:World):Grw w w:=⟨rfl,rfl,rfl,aL _⟩
theorem Grw.trans {a b c:World}(h:Grw a b)(k:Grw b c):Grw a c:=⟨k.os.trans h.os,k.tape.trans h.tape,k.output.trans h.output,bn h.size k.size⟩
theorem Nw.grw {a b:World}(h:Nw a b):Grw a b:=⟨h.os,h.tape,h.output,h.size⟩
structure Amb where
  w0:World
  N0:Nat→Prop
  X:Nat→Prop
  n:Nat
  k0:Nat
  h0:Nat→Value
  f0:Nat→List Nat
structure Rg (A:Amb) (s:St) (gh:Gh) (a:Act) (w:World):Prop where
  cx:Cx s.tab gh w
  sz:a.tmps.size=A.n
  df:a.defers=[]
  tm:∀i pv,lk s.tm i=some pv→∃v,a.tmps[i]? =some v∧PVR s.tab.al gh w pv v
  gw:Grw A.w0 w
  kp:∀g,A.X g→g < A.w0.heap.size→w.heap[g]? =A.w0.heap[g]?
  fr:∀g,gh.N g→A.N0 g∨A.w0.heap.size≤g
  ox:∀q,s.tab.al q→∀g∈gh.f q,g < A.w0.heap.size→¬A.X g
  hh:∀q,q < A.k0→s.tab.al q→gh.h q=A.h0 q
  xn:∀g,g < A.w0.heap.size→¬A.X g→A.N0 g
def R (A:Amb)(s:St)(a:Act)(w:World):Prop:=∃gh,Rg A s gh a w
def Does (A:Amb)(P:Program)(o:Oper)(s s':St):Prop:=∀a w K Q,R A s a w→(∀a' w',R A s' a' w'→K a' w')→o.wp P a w K Q
def Wk (A:Amb)(s s':St):Prop:=∀a w,R A s a w→R A s' a w
theorem QyN (A:Amb)(s:St):Wk A s s:=fun _ _ h=>h
theorem Wk.trans {A:Amb}{s s' b:St}(h:Wk A s s')(k:Wk A s' b):Wk A s b:=fun a w x=>k a w (h a w x)
theorem Does.wk {A:Amb}{P:Program}{o:Oper}{s s' b:St}(h:Does A P o s s')(k:Wk A s' b):Does A P o s b:=fun a w K Q r d=>h a w K Q r fun c w' e=>d c w' (k c w' e)
theorem QyM {A:Amb}{P:Program}{o:Oper}{s s' b:St}(k:Wk A s s')(h:Does A P o s' b):Does A P o s b:=fun a w K Q r c=>h a w K Q (k a w r) c
@[reducible] def St.put (s:St) (d:Nat) (pv:PV):St:=⟨(d,pv) :: s.tm,s.tab⟩
theorem Rg.put {A:Amb}{s:St}{gh:Gh}{a:Act}{w:World}(h:Rg A s gh a w){d:Nat}(f:d < A.n){pv:PV}{v:Value}(hv:PVR s.tab.al gh w pv v):Rg A (s.put d pv) gh (a.put (some d) v) w where
 cx:=h.cx
 sz:=by simp[Act.put,h.sz]
 df:=h.df
 tm i pv' hi:=by
  simp only[WB] at hi
  by_cases hid:i=d
  ·subst hid
   rw[if_pos rfl] at hi
   cases hi
   exact ⟨v,by simp[Act.put,h.sz,f],hv⟩
  ·rw[if_neg hid] at hi
   obtain ⟨j,b,c⟩:=h.tm i pv' hi
   exact ⟨j,by simp only[Act.put]; rw[bY (fun e=>hid e.symm)]; exact b,c⟩
 gw:=h.gw
 kp:=h.kp
 fr:=h.fr
 ox:=h.ox
 hh:=h.hh
 xn:=h.xn
theorem Rg.puto {A:Amb}{s:St}{gh:Gh}{a:Act}{w:World}(h:Rg A s gh a w){v:Value}:Rg A s gh (a.put none v) w:=h
structure Fresh (s:St) (q:Nat):Prop where
  tm:∀i pv,lk s.tm i=some pv→q∉pv.tags
  en:∀r e,s.tab.ent r=some e→q∉e.tags
  al:¬s.tab.al q
theorem Rg.step {A:Amb}{s:St}{gh gh':Gh}{a:Act}{w w':World}{T:Tab}(h:Rg A s gh a w)(p:Cx T gh' w')
 (ha:∀q,T.al q→(s.tab.al q∧gh'.h q=gh.h q∧(q < A.k0→gh'.f q=gh'.f q))∨(Fresh s q∧A.k0≤q)) (hN:∀g,gh.N g→gh'.N g∧w'.heap[g]? =w.heap[g]?)
 (gw:Grw w w')
 (kp:∀g,g < w.heap.size→(∀q,s.tab.al q→g∉gh.f q)→w'.heap[g]? =w.heap[g]?)
 (fr:∀g,gh'.N g→gh.N g∨w.heap.size≤g∨(∃q,s.tab.al q∧g∈gh.f q∧(g < A.w0.heap.size→A.N0 g)))
 (ox:∀q,T.al q→∀g∈gh'.f q,w.heap.size≤g∨∃m,s.tab.al m∧g∈gh.f m):Rg A ⟨s.tm,T⟩ gh' a w' where
 cx:=p
 sz:=h.sz
 df:=h.df
 tm i pv hi:=by
  obtain ⟨v,j,n⟩:=h.tm i pv hi
  exact ⟨v,j,n.mono (fun q c b=>by
   rcases ha q b with ⟨d,l,_⟩ | ⟨d,_⟩
   ·exact ⟨d,l⟩
   ·exact absurd c (d.tm i pv hi)) hN⟩
 gw:=h.gw.trans gw
 kp g hX hl:=by
  rw[kp g (bq hl h.gw.size) fun q c e=>h.ox q c g e hl hX]
  exact h.kp g hX hl
 fr g e:=by
  rcases fr g e with k | k | ⟨q,d,l,r⟩
  ·exact h.fr g k
  ·exact .inr (bn h.gw.size k)
  ·rcases dp g A.w0.heap.size with o | o
   ·exact .inl (r o)
   ·exact .inr o
 ox q c g e hl:=by
  rcases ox q c g e with k | ⟨m,d,l⟩
  ·have:=h.gw.size; omega
  ·exact h.ox m d g l hl
 hh q c b:=by
  rcases ha q b with ⟨j,n,u⟩ | ⟨_,j⟩
  ·rw[n]; exact h.hh q c j
  ·omega
 xn:=h.xn
theorem Rg.know {A:Amb}{s:St}{gh:Gh}{a:Act}{w:World}(h:Rg A s gh a w){d:Nat}{pv:PV}{v:Value}(b:a.tmps[d]? =some v)(hv:PVR s.tab.al gh w pv v):Rg A (s.put d pv) gh a w where
 cx:=h.cx
 sz:=h.sz
 df:=h.df
 tm i pv' hi:=by
  simp only[WB] at hi
  by_cases hid:i=d
  ·subst hid
   rw[if_pos rfl] at hi
   cases hi
   exact ⟨v,b,hv⟩
  ·rw[if_neg hid] at hi
   exact h.tm i pv' hi
 gw:=h.gw
 kp:=h.kp
 fr:=h.fr
 ox:=h.ox
 hh:=h.hh
 xn:=h.xn
def inB (q:Nat):List Nat→Bool
 | []=>false
 | r :: rs=>match Nat.beq q r with
  | true=>true
  | false=>inB q rs
theorem Qfi {q:Nat}{l:List Nat}(h:inB q l=false):q∉l:=by
 induction l with
 | nil=>simp
 | cons r c b=>
  unfold inB at h
  cases e:Nat.beq q r with
  | true=>rw[e] at h; cases h
  | false=>
   rw[e] at h
   intro a
   rcases aE.1 a with rfl | a
   ·rw[dq] at e; cases e
   ·exact b h a
def ZD:Tab→List Nat
 | []=>[]
 | (q,e) :: T=>match e with
  | some e=>q :: (e.tags++ZD T)
  | none=>ZD T
theorem Zp {T:Tab}{q:Nat}{e:Ent}(h:T.ent q=some e):q∈ZD T∧∀r∈e.tags,r∈ZD T:=by
 induction T with
 | nil=>cases h
 | cons x T f=>
  obtain ⟨j,o⟩:=x
  rw[Qd] at h
  by_cases a:q=j
  ·rw[if_pos a] at h
   subst h
   exact ⟨by simp[ZD,a],fun r b=>by simp[ZD,b]⟩
  ·rw[if_neg a] at h
   obtain ⟨c,d⟩:=f h
   cases o with
   | none=>exact ⟨c,d⟩
   | some i=>exact ⟨by simp[ZD,c],fun r b=>by simp[ZD,d r b]⟩
def QiG:List (Nat×PV)→List Nat
 | []=>[]
 | p :: l=>p.2.tags++QiG l
theorem Qkq {l:List (Nat×PV)}{i:Nat}{pv:PV}(h:lk l i=some pv):∀q∈pv.tags,q∈QiG l:=by
 induction l with
 | nil=>cases h
 | cons x l b=>
  obtain ⟨j,c⟩:=x
  rw[WB] at h
  intro q a
  simp only[QiG,aG]
  by_cases e:i=j
  ·rw[if_pos e] at h; cases h; exact .inl a
  ·rw[if_neg e] at h; exact .inr (b h q a)
def Qmp (s:St)(q:Nat):Bool:= !(inB q (QiG s.tm))&& !(inB q (ZD s.tab))
theorem Fresh.of {s:St}{q:Nat}(h:Qmp s q=true):Fresh s q:=by
 simp only[Qmp,aM,bQ] at h
 have d:=Qfi h.1
 have c:=Qfi h.2
 exact ⟨fun i j f b=>d (Qkq f q b),fun r e a b=>c ((Zp a).2 q b),fun ⟨e,a⟩=>c (Zp a).1⟩
end Go.Proofs.YtndabgcpnmeeoaaGreat
