/- What the form reads at the laws' struct types is a datum. -/
import Derived.Test.YtndabgcpnmeeoaaGreatPOwn
import Derived.Test.YtndabgcpnmeeoaaGreatProg
import Derived.KernelRfl
import Derived.Test.YtndabgcpnmeeoaaGreatPPin
import Derived.StillTail
import Derived.Deep.RegionHeld3
import Derived.Maps.AppendAt
import Derived.Laws.OwnMore
set_option linter.unusedSimpArgs false
set_option linter.unusedVariables false
set_option linter.unusedSectionVars false
namespace Go.Proofs.YtndabgcpnmeeoaaGreat
set_option maxHeartbeats 4000000
set_option maxRecDepth 100000
open Go.RowKit
attribute [local irreducible] TF
theorem Qh4 {l:List Value}(h:l.length=3):∃a b c,l=[a,b,c]:=by
 match l,h with
 | [a,b,c],_=>exact ⟨a,b,c,rfl⟩
theorem KR {l:List Value}(h:l.length=5):∃a b c d e,l=[a,b,c,d,e]:=by
 match l,h with
 | [a,b,c,d,e],_=>exact ⟨a,b,c,d,e,rfl⟩
theorem Qre:Trd Tryz.prog 311 ZF:=Trd.st Tryz.underlying311 (by kernel_rfl) (TF.cons _ rfl rfl (Trd.str (by kernel_rfl) (by kernel_rfl)) (QbG _ rfl rfl (Trd.int (by kernel_rfl) (by kernel_rfl))))
theorem Qhq:Trd Tryz.prog 424 QV:=Trd.st Tryz.underlying424 (by kernel_rfl) (TF.cons _ rfl rfl (Trd.sl (by kernel_rfl) (by kernel_rfl) (Trd.int (by kernel_rfl) (by kernel_rfl))) (QbG _ rfl rfl (Trd.sl (by kernel_rfl) (by kernel_rfl) (Trd.int (by kernel_rfl) (by kernel_rfl)))))
theorem QwC:Trd Tryz.prog 80 Qhd:=Trd.st Tryz.underlying80 (by kernel_rfl) (TF.cons _ rfl rfl (Trd.int (by kernel_rfl) (by kernel_rfl)) (QbG _ rfl rfl (Trd.sl (by kernel_rfl) (by kernel_rfl) Qhq)))
theorem Qtz:Trd Tryz.prog 323 X8:=Trd.st Tryz.underlying323 (by kernel_rfl) (TF.cons _ rfl rfl (Trd.int (by kernel_rfl) (by kernel_rfl)) (QbG _ rfl rfl (Trd.bool (by kernel_rfl) (by kernel_rfl))))
theorem QwD:Trd Tryz.prog 84 Qco:=Trd.st Tryz.underlying84 (by kernel_rfl) (TF.cons _ rfl rfl QwC (TF.cons _ rfl rfl (Trd.sl (by kernel_rfl) (by kernel_rfl) Qre) (TF.cons _ rfl rfl (Trd.sl (by kernel_rfl) (by kernel_rfl) Qtz) (QbG _ rfl rfl (Trd.str (by kernel_rfl) (by kernel_rfl))))))
end Go.Proofs.YtndabgcpnmeeoaaGreat
namespace Go.Proofs.YtndabgcpnmeeoaaGreat
set_option maxHeartbeats 4000000
set_option maxRecDepth 100000
open Go.RowKit
def RisAt (l:List Int)(hi:Int)(k:Nat):Prop:=∀x,l[k]? =some x→(0≤x∧x≤hi)∧∀j y,j+1=k→l[j]? =some y→y < x
def QcO (l:List Int)(hi:Int):Prop:=∀k,k < l.length→RisAt l hi k
theorem RisAt.step {l:List Int}{hi:Int}{k:Nat}(h:∀j,j < k→RisAt l hi j)(a:RisAt l hi k):∀j,j < k+1→RisAt l hi j:=by
 intro j b
 by_cases e:j=k
 ·subst e; exact a
 ·exact h j (by omega)
def QtU (hi:Int)(t:QG):Prop:=t.1≠[]∧QcO t.1 hi∧QcO t.2 hi
def Qfe (n:V8):Prop:=(1≤n.1∧n.1≤30)∧n.2.length≤24∧∀t∈n.2,QtU (n.1 - 1) t
def QwS (c:UInt8):Prop:=c.toNat=48∨c.toNat=49
def BitsAt (s:ByteArray)(k:Nat):Prop:=∀h:k < s.size,QwS s[k]
def U5 (s:ByteArray)(n:Int):Prop:=(∀k,k < s.size→BitsAt s k)∧(s.size:Int)=n
theorem Qjg (v:Value)(l:List Int)(hi:Int)(w:World)(F:Rep Qz w [v] l):
 Calls Tryz.prog 529 #[v, .int .i64 0, .int .i64 hi] w (RetB (QcO l hi) w):=by
 obtain ⟨A,c,rfl,hl,N⟩:=F.slv
 have hm:l.length≤9223372036854775807:=by unfold maxLen at N; omega
 go_enter Tryz.func529,Tryz.ntmps529
 go_wp2
 go_loopw [11] (fun i T=>∃k:Nat,k≤l.length∧i= .int .i64 k∧(∀j,j < k→RisAt l hi j)∧Nw w T) (fun i _=>l.length - (intOf i).toNat)
 case atStart=>exact ⟨0,aG _,rfl,fun j h=>absurd h (by omega),Qr _⟩
 case round=>
  obtain ⟨k,Z,rfl,q,r⟩:=hrel
  have D:=hid q
  clear q
  by_cases g:k < l.length
  ·obtain ⟨b,o,v0,rfl,K,V⟩:=(F.nw r).at1 rfl (ae g)
   have C:=hid (ae g)
   generalize G:l[k]=x at*
   clear G
   obtain ⟨rfl, -⟩:=K.int_
   clear K
   go_wp2_with fail
   refine (KP _ _ _ _).mono ?_
   rintro e w1 ⟨M,rfl,f,a⟩
   obtain ⟨O,Q⟩:=a.cells
   cases M with
   | false=>
    have u:=hid (RetB.not f)
    clear f
    go_wp2
    go_ret
    exact RetB.no (fun h=>u.out ((h k g _ C.out).1)) (r.trans a)
   | true=>
    have u:=hid (f.1 rfl)
    clear f
    by_cases E:k=0
    ·subst E
     go_wp2
     go_roundw
     case rel=>exact ⟨1,by omega,by go_num,RisAt.step D.out (fun y p=>by
      rw[C.out] at p
      cases p
      exact ⟨u.out,fun j y J=>absurd J (by omega)⟩),r.trans a⟩
     case measure=>simp[intOf]; omega
    ·obtain ⟨m,n⟩:∃m,k=m+1:=⟨k - 1,by omega⟩
     have R:(k:Int) - 1=m:=by omega
     have S:(0:Int) < k:=by omega
     have t:m < l.length:=by omega
     obtain ⟨U,o',y0,I,p,W⟩:=((F.nw r).nw a).at1 rfl (ae t)
     simp only[bi,Addr.mk.injEq,and_true] at I
     obtain ⟨rfl,rfl⟩:=I
     have s:=hid (ae t)
     generalize H:l[m]=y at*
     clear H
     obtain ⟨rfl, -⟩:=p.int_
     clear p
     by_cases d:x≤y
     ·have P:=aL d
      have B:=hid (And.intro n d)
      clear n d
      go_wp2
      go_ret
      exact RetB.no (fun h=>by have:=(h k g _ C.out).2 m _ (B.out.1).symm s.out; have:=B.out.2; omega) (r.trans a)
     ·have P:=aB d
      have B:=hid (And.intro n d)
      clear n d
      go_wp2
      go_roundw
      case rel=>exact ⟨k+1,by omega,by go_num,RisAt.step D.out (fun z L=>by
       rw[C.out] at L
       cases L
       exact ⟨u.out,fun j y J p=>by
        obtain ⟨X,Y⟩:=B.out
        have:j=m:=by omega
        subst this
        rw[s.out] at p
        cases p
        omega⟩),r.trans a⟩
      case measure=>simp[intOf]; omega
  ·have:k=l.length:=by omega
   subst this
   go_wp2
   go_ret
   exact RetB.yes (D.out) r
theorem KO (v:Value)(l:List Int)(n hi:Int)(w:World)(G:Rep Qz w [v] l)(hn:IntKind.i64.wrap (n - 1)=hi):
 Calls Tryz.prog 476 #[v, .int .i64 n] w (RetB (QcO l hi) w):=by
 obtain ⟨A,c,rfl,hl,O⟩:=G.slv
 have hm:l.length≤9223372036854775807:=by unfold maxLen at O; omega
 go_enter Tryz.func476,Tryz.ntmps476
 go_wp2
 go_loopw [9] (fun i U=>∃k:Nat,k≤l.length∧i= .int .i64 k∧(∀j,j < k→RisAt l hi j)∧Nw w U) (fun i _=>l.length - (intOf i).toNat)
 case atStart=>exact ⟨0,aG _,rfl,fun j h=>absurd h (by omega),Qr _⟩
 case round=>
  obtain ⟨k,hk,rfl,r,s⟩:=hrel
  have E:=hid r
  clear r
  by_cases g:k < l.length
  ·obtain ⟨b,o,v0,rfl,L,W⟩:=(G.nw s).at1 rfl (ae g)
   have D:=hid (ae g)
   generalize H:l[k]=x at*
   clear H
   obtain ⟨rfl, -⟩:=L.int_
   clear L
   go_wp2_with fail
   refine (W6 _ _ _ _).mono ?_
   rintro e w1 ⟨N,rfl,f,a⟩
   obtain ⟨P,R⟩:=a.cells
   cases N with
   | false=>
    have B:=hid (RetB.not f)
    clear f
    go_wp2
    go_ret
    exact RetB.no (fun h=>B.out ((h k g _ D.out).1)) (s.trans a)
   | true=>
    have B:=hid (f.1 rfl)
    clear f
    by_cases F:k=0
    ·subst F
     go_wp2
     go_roundw
     case rel=>exact ⟨1,by omega,by go_num,RisAt.step E.out (fun y q=>by
      rw[D.out] at q
      cases q
      exact ⟨B.out,fun j y K=>absurd K (by omega)⟩),s.trans a⟩
     case measure=>simp[intOf]; omega
    ·obtain ⟨m,p⟩:∃m,k=m+1:=⟨k - 1,by omega⟩
     have S:(k:Int) - 1=m:=by omega
     have T:(0:Int) < k:=by omega
     have u:m < l.length:=by omega
     obtain ⟨V,o',y0,J,q,X⟩:=((G.nw s).nw a).at1 rfl (ae u)
     simp only[bi,Addr.mk.injEq,and_true] at J
     obtain ⟨rfl,rfl⟩:=J
     have t:=hid (ae u)
     generalize I:l[m]=y at*
     clear I
     obtain ⟨rfl, -⟩:=q.int_
     clear q
     by_cases d:x≤y
     ·have Q:=aL d
      have C:=hid (And.intro p d)
      clear p d
      go_wp2
      go_ret
      exact RetB.no (fun h=>by have:=(h k g _ D.out).2 m _ (C.out.1).symm t.out; have:=C.out.2; omega) (s.trans a)
     ·have Q:=aB d
      have C:=hid (And.intro p d)
      clear p d
      go_wp2
      go_roundw
      case rel=>exact ⟨k+1,by omega,by go_num,RisAt.step E.out (fun z M=>by
       rw[D.out] at M
       cases M
       exact ⟨B.out,fun j y K q=>by
        obtain ⟨Y,Z⟩:=C.out
        have:j=m:=by omega
        subst this
        rw[t.out] at q
        cases q
        omega⟩),s.trans a⟩
      case measure=>simp[intOf]; omega
  ·have:k=l.length:=by omega
   subst this
   go_wp2
   go_ret
   exact RetB.yes (E.out) s
end Go.Proofs.YtndabgcpnmeeoaaGreat
namespace Go.Proofs.YtndabgcpnmeeoaaGreat
set_option maxHeartbeats 4000000
set_option maxRecDepth 100000
open Go.RowKit
theorem Qgu (v:Value)(l:List Int)(hi:Int)(w:World)(a:Rep Qz w [v] l):
 Calls Tryz.prog 472 #[v, .int .i64 hi] w (RetB (QcO l hi) w):=by
 obtain ⟨A,c,rfl,h,g⟩:=a.slv
 go_enter Tryz.func472,Tryz.ntmps472
 go_wp2_with fail
 refine (Qjg _ l _ _ a).mono ?_
 rintro e i ⟨b,rfl,d,f⟩
 go_wp2
 go_ret
 exact RetB.of d f
def TrAt (hi:Int)(ts:List QG)(k:Nat):Prop:=∀t,ts[k]? =some t→QtU hi t
theorem TrAt.step {hi:Int}{ts:List QG}{k:Nat}(h:∀j,j < k→TrAt hi ts j)(a:TrAt hi ts k):∀j,j < k+1→TrAt hi ts j:=by
 intro j b
 by_cases e:j=k
 ·subst e; exact a
 ·exact h j (by omega)
theorem Qpt {p hi:Int}{ts:List QG}(d:IntKind.i64.wrap (p - 1)=hi)(h:∀j,j < ts.length→TrAt hi ts j)(b:1≤p∧p≤30)(c:ts.length≤24):Qfe (p,ts):=by
 have:hi=p - 1:=by rw[← d]; exact IntWalk.i64_in _ (by omega)
 refine ⟨b,c,fun t e=> ?_⟩
 obtain ⟨j,a⟩:=aN.1 e
 have:=h j (ai.1 a).1 t a
 simp_all
theorem Qps {p hi:Int}{ts:List QG}(a:IntKind.i64.wrap (p - 1)=hi)(h:Qfe (p,ts)){k:Nat}:TrAt hi ts k:=by
 have c:=h.1
 have:hi=p - 1:=by rw[← a]; exact IntWalk.i64_in _ (by omega)
 subst this
 exact fun t b=>h.2.2 t (ah b)
theorem QnX (a0 a1:Value)(n:V8)(w:World)(hn:Rep QdB w [a0,a1] n):
 Calls Tryz.prog 375 #[.agg #[a0,a1]] w (RetB (Qfe n) w):=by
 obtain ⟨p,ts⟩:=n
 obtain ⟨rP,rT⟩:=hn.open2 rfl
 dsimp only at rP rT
 obtain ⟨rfl,hp1,hp2⟩:=rP.int_
 obtain ⟨A,c,rfl,hl,hc⟩:=rT.slv
 have hm:ts.length≤9223372036854775807:=by unfold maxLen at hc; omega
 obtain ⟨hi,hhi⟩:∃hi,IntKind.i64.wrap (p - 1)=hi:=⟨_,rfl⟩
 have HNO:=hid (fun (h:Qfe (p,ts)) (k:Nat)=>Qps hhi h (k:=k))
 have HYES:=hid (fun h1 h2 h3=>Qpt (ts:=ts) hhi h1 h2 h3)
 generalize hPP:Qfe (p,ts)=PP at*
 have HPP:=hid hPP
 clear hPP rP
 go_enter Tryz.func375,Tryz.ntmps375
 go_wp2
 go_loopw [8] (fun i wr=>∃k:Nat,k≤ts.length∧i= .int .i64 k∧(∀j,j < k→TrAt hi ts j)∧Nw w wr∧wr.cell? ⟨w.heap.size,0,none⟩=some (.int .i64 p)∧wr.cell? ⟨w.heap.size,1,none⟩=some (.slice A ts.length c)∧w.heap.size < wr.heap.size) (fun i _=>ts.length - (intOf i).toNat)
 case atStart=>exact ⟨0,aG _,rfl,fun j h=>absurd h (by omega),by (repeat (first | with_reducible exact Qr _ | with_reducible assumption | with_reducible apply Nw.alloc | with_reducible apply Nw.drew | with_reducible apply Nw.drewN | (with_reducible refine Qm ?_ ?_; focus (first | (simp; done) | (simp; omega))) | with_reducible refine Qt ‹_› ?_)),by go_simp,by go_simp,by simp⟩
 case round=>
  obtain ⟨wo,rfl⟩:∃wo:World,wo=wr:=⟨_,rfl⟩
  obtain ⟨k,hk,rfl,hyes,hq,d0,d1,hs⟩:=hrel
  have HY:=hid hyes
  clear hyes
  by_cases hlt:k < ts.length
  ·obtain ⟨b,o,v0,v1,rfl,hx,c0,c1⟩:=(rT.nw hq).at2 rfl (ae hlt)
   have HX:=hid (ae hlt)
   generalize hxk:ts[k]=x at*
   clear hxk
   obtain ⟨pre,post⟩:=x
   obtain ⟨r0,r1⟩:=hx.open2 rfl
   dsimp only at r0 r1
   obtain ⟨A0,cc0,rfl, -, -⟩:=r0.slv
   obtain ⟨A1,cc1,rfl, -, -⟩:=r1.slv
   rcases pre with _ | ⟨q,pre⟩
   ·go_wp2
    go_ret
    exact RetB.no (fun h=>(HNO.out h k _ HX.out).1 rfl) (by (repeat (first | with_reducible exact Qr _ | with_reducible assumption | with_reducible apply Nw.alloc | with_reducible apply Nw.drew | with_reducible apply Nw.drewN | (with_reducible refine Qm ?_ ?_; focus (first | (simp; done) | (simp; omega))) | with_reducible refine Qt ‹_› ?_)))
   ·have hne:((((q :: pre).length:Nat):Int)==0)=false:=Wd (by simp only[au]; omega)
    generalize hqp:q :: pre=pr at*
    go_wp2_with fail
    obtain ⟨W1,hW1⟩:∃W1,W1=wo.alloc (.cells #[.slice A0 pr.length cc0, .slice A1 post.length cc1] 275):=⟨_,rfl⟩
    have e0:W1.cell? ⟨wo.heap.size,1,none⟩=some (.slice A1 post.length cc1):=by rw[hW1]; go_simp
    have e1:W1.cell? ⟨w.heap.size,0,none⟩=some (.int .i64 p):=by rw[hW1]; go_simp
    have e2:W1.cell? ⟨w.heap.size,1,none⟩=some (.slice (some ⟨b,o,none⟩) ts.length c):=by rw[hW1]; go_simp
    have hN1:Nw wo W1:=by rw[hW1]; exact (Qr _).alloc _
    have hs1:wo.heap.size < W1.heap.size:=by rw[hW1]; simp
    have hs2:w.heap.size < W1.heap.size:=by omega
    rw[← hW1]
    clear hW1 c0 c1 d0 d1
    refine (Qgu _ pr _ _ (r0.nw hN1)).mono ?_
    rintro e w1 ⟨b1,rfl,hb1,hq1⟩
    obtain ⟨hc1,hf1⟩:=hq1.cells
    cases b1 with
    | false=>
     have HB:=hid (RetB.not hb1)
     clear hb1
     go_wp2
     go_ret
     exact RetB.no (fun h=>HB.out (HNO.out h k _ HX.out).2.1) ((hq.trans hN1).trans hq1)
    | true=>
     have HB:=hid (hb1.1 rfl)
     clear hb1
     go_wp2_with fail
     refine (Qgu _ post _ _ ((r1.nw hN1).nw hq1)).mono ?_
     rintro e w2 ⟨b2,rfl,hb2,hq2⟩
     have hN2:=hq1.trans hq2
     clear hc1 hf1
     obtain ⟨hc1,hf1⟩:=hN2.cells
     cases b2 with
     | false=>
      have HB2:=hid (RetB.not hb2)
      clear hb2
      go_wp2
      go_ret
      exact RetB.no (fun h=>HB2.out (HNO.out h k _ HX.out).2.2) ((hq.trans hN1).trans hN2)
     | true=>
      have HB2:=hid (hb2.1 rfl)
      clear hb2
      have hs3:w.heap.size < w2.heap.size:=by have:=hN2.size; omega
      have HQP:=hid hqp
      clear hqp
      go_wp2
      go_roundw
      case rel=>exact ⟨k+1,by omega,by go_num,TrAt.step HY.out (fun y hy=>by
       rw[HX.out] at hy
       cases hy
       exact ⟨by rw[← HQP.out]; simp,HB.out,HB2.out⟩),(hq.trans hN1).trans hN2,by rw[hc1 _ _ hs2]; exact e1,by rw[hc1 _ _ hs2]; exact e2,hs3⟩
      case measure=>simp[intOf]; omega
  ·have:k=ts.length:=by omega
   subst this
   go_wp2_with fail
   refine (KP _ _ _ _).mono ?_
   rintro e w1 ⟨b1,rfl,hb1,hq1⟩
   obtain ⟨hc1,hf1⟩:=hq1.cells
   cases b1 with
   | false=>
    have HB:=hid (RetB.not hb1)
    clear hb1
    go_wp2
    go_ret
    exact RetB.no (fun h=>by rw[← HPP.out] at h; exact HB.out h.1) (hq.trans hq1)
   | true=>
    have HB:=hid (hb1.1 rfl)
    clear hb1
    by_cases h24:ts.length≤24
    ·have hd:decide ((ts.length:Int)≤24)=true:=aL (by omega)
     have H24:=hid h24
     clear h24
     go_wp2
     go_ret
     exact RetB.yes (by rw[← HPP.out]; exact HPP.out▸(HPP.out▸HYES.out HY.out HB.out H24.out)) (hq.trans hq1)
    ·have hd:decide ((ts.length:Int)≤24)=false:=aB (by omega)
     have H24:=hid h24
     clear h24
     go_wp2
     go_ret
     exact RetB.no (fun h=>by rw[← HPP.out] at h; exact H24.out h.2.1) (hq.trans hq1)
end Go.Proofs.YtndabgcpnmeeoaaGreat
namespace Go.Proofs.YtndabgcpnmeeoaaGreat
set_option maxHeartbeats 4000000
set_option maxRecDepth 100000
open Go.RowKit
theorem Qa7:Qh Tryz.prog 475:=fun a W=>Qc Tryz.func475 (by kernel_rfl) rfl a W
theorem Qd0 (D E:Value)(x:QG)(g:Nat)(n hi:Int)(w:World)(R:Rep QN w [D,E] x)(B:w.cell? ⟨g,0,none⟩=some (.int .i64 n))(C:IntKind.i64.wrap (n - 1)=hi):
 Calls Tryz.prog 475 #[.agg #[D,E], .pointer (some ⟨g,0,none⟩)] w (RetB (¬QtU hi x) w):=by
 obtain ⟨d,f⟩:=x
 obtain ⟨y,z⟩:=R.open2 rfl
 dsimp only at y z
 obtain ⟨F,s,rfl, -, -⟩:=y.slv
 obtain ⟨G,t,rfl, -, -⟩:=z.slv
 have N:g < w.heap.size:=cM w _ B
 rcases d with _ | ⟨q,d⟩
 ·go_enter Tryz.func475,Tryz.ntmps475
  go_wp2
  go_ret
  exact RetB.yes (fun h=>h.1 rfl) (by (repeat (first | with_reducible exact Qr _ | with_reducible assumption | with_reducible apply Nw.alloc | with_reducible apply Nw.drew | with_reducible apply Nw.drewN | (with_reducible refine Qm ?_ ?_; focus (first | (simp; done) | (simp; omega))) | with_reducible refine Qt ‹_› ?_)))
 ·have P:((((q :: d).length:Nat):Int)==0)=false:=Wd (by simp only[au]; omega)
  generalize l:q :: d=pr at*
  go_enter Tryz.func475,Tryz.ntmps475
  obtain ⟨r,i,a,k,v⟩:=JC w #[.slice F pr.length s, .slice G f.length t] 275
  have H:=k 1
  simp only[cv,bk,bT] at H
  have Q:w.heap.size < r.heap.size:=by omega
  have K:r.cell? ⟨g,0,none⟩=some (.int .i64 n):=by rw[a.cells.1 _ _ N]; exact B
  have O:g < r.heap.size:=by omega
  clear k v
  go_wp2_with fail
  rw[← i]
  have S:=hid i
  clear i
  refine (KO _ pr _ _ _ (y.nw a) C).mono ?_
  rintro e T ⟨I,rfl,b,c⟩
  obtain ⟨L,M⟩:=c.cells
  cases I with
  | false=>
   have m:=hid (RetB.not b)
   clear b
   go_wp2
   go_ret
   exact RetB.yes (fun h=>m.out h.2.1) (a.trans c)
  | true=>
   have m:=hid (b.1 rfl)
   clear b
   go_wp2_with fail
   refine (KO _ f _ _ _ ((z.nw a).nw c) C).mono ?_
   rintro e w2 ⟨J,rfl,j,u⟩
   have o:=hid j
   clear j
   have p:=hid l
   clear l
   go_wp2
   go_ret
   refine RetB.of ?_ ((a.trans c).trans u)
   have A:=o.out
   cases J with
   | false=>simp only[Bool.not_false,true_iff]; exact fun h=>by have:=A.2 h.2.2; cases this
   | true=>simp only[cW,bt,false_iff]; exact fun h=>h ⟨by rw[← p.out]; simp,m.out,A.1 rfl⟩
theorem Qfa (v B:Value)(n:V8)(w:World)(hn:Rep QdB w [v,B] n):
 Calls Tryz.prog 382 #[.agg #[v,B]] w (RetB (Qfe n) w):=by
 obtain ⟨p,b⟩:=n
 obtain ⟨O,P⟩:=hn.open2 rfl
 dsimp only at O P
 obtain ⟨rfl,a3,a4⟩:=O.int_
 obtain ⟨A,c,rfl,hl,X⟩:=P.slv
 have hm:b.length≤9223372036854775807:=by unfold maxLen at X; omega
 obtain ⟨D,l⟩:∃D,IntKind.i64.wrap (p - 1)=D:=⟨_,rfl⟩
 have G:=hid l
 have H:=hid (fun (h:Qfe (p,b)) (k:Nat)=>Qps l h (k:=k))
 have u:=hid (fun U V C=>Qpt (ts:=b) l U V C)
 generalize x:Qfe (p,b)=PP at*
 have s:=hid x
 clear x O l
 go_enter Tryz.func382,Tryz.ntmps382
 obtain ⟨R,o,f,q,M⟩:=JC w #[.int .i64 p, .slice A b.length c] 48
 have v:=q 0
 have B:=q 1
 simp only[cv,bk,bT] at v B
 have L:w.heap.size < R.heap.size:=by omega
 clear q M
 go_wp2_with fail
 rw[← o]
 have HW:=hid o
 clear o
 refine (W6 _ _ _ _).mono ?_
 rintro e w1 ⟨S,rfl,g,a⟩
 obtain ⟨I,Z⟩:=a.cells
 cases S with
 | false=>
  have E:=hid (RetB.not g)
  clear g
  go_wp2
  go_ret
  exact RetB.no (fun h=>by rw[← s.out] at h; exact E.out h.1) (f.trans a)
 | true=>
  have E:=hid (g.1 rfl)
  clear g
  by_cases d:b.length≤24
  ·have Y:decide ((24:Int) < (b.length:Int))=false:=aB (by omega)
   have m:=hid d
   clear d
   go_wp2_with fail
   refine (Uj (fun t=>¬QtU D t) b _ _ _ _ (P.nw (f.trans a)) Qa7 ?_).mono ?_
   ·intro i y W u0 u1 a2 K hy
    exact Qd0 u0 u1 y _ p D W hy (by rw[(K.cells).1 _ _ (by have:=a.size; omega),I _ _ L]; exact v) G.out
   ·rintro e w3 ⟨T,rfl,z,J⟩
    have F:=hid z
    clear z
    go_wp2
    go_ret
    refine RetB.of ?_ ((f.trans a).trans J)
    have C:=F.out
    cases T with
    | false=>
     simp only[Bool.not_false,true_iff]
     refine u.out (fun j Q t N=> ?_) E.out m.out
     exact ce fun r=>by
      have:=C.2 ⟨t,ah N,r⟩
      cases this
    | true=>
     simp only[cW,bt,false_iff]
     intro h
     obtain ⟨t,N,r⟩:=C.1 rfl
     obtain ⟨j,Q⟩:=aN.1 N
     exact r (H.out h j t Q)
  ·have Y:decide ((24:Int) < (b.length:Int))=true:=aL (by omega)
   have m:=hid d
   clear d
   go_wp2
   go_ret
   exact RetB.no (fun h=>by rw[← s.out] at h; exact m.out h.2.1) (f.trans a)
theorem BitsAt.step {s:ByteArray}{k:Nat}(h:∀j,j < k→BitsAt s j)(a:BitsAt s k):∀j,j < k+1→BitsAt s j:=by
 intro j b
 by_cases e:j=k
 ·subst e; exact a
 ·exact h j (by omega)
theorem QnY (r t:Value)(n:V8)(s:ByteArray)(w:World)(u:Rep QdB w [r,t] n)(D:s.size≤maxLen):
 Calls Tryz.prog 376 #[.agg #[r,t], .string s] w (RetB (U5 s n.1) w):=by
 have I:s.size≤9223372036854775807:=D
 obtain ⟨p,J⟩:=n
 obtain ⟨o,q⟩:=u.open2 rfl
 dsimp only at o q ⊢
 obtain ⟨rfl,B,C⟩:=o.int_
 obtain ⟨A,c,rfl,G,E⟩:=q.slv
 clear o q u
 go_enter Tryz.func376,Tryz.ntmps376
 go_wp2
 go_loop [5] (fun i=>∃k:Nat,k≤s.size∧i= .int .i64 k∧∀j,j < k→BitsAt s j) (fun i=>s.size - (intOf i).toNat)
 case atStart=>exact ⟨0,aG _,rfl,fun j h=>absurd h (by omega)⟩
 case round=>
  obtain ⟨k,F,rfl,d⟩:=hrel
  have m:=hid d
  clear d
  by_cases l:k < s.size
  ·rcases (by omega:s[k].toNat=48∨s[k].toNat=49∨(s[k].toNat≠48∧s[k].toNat≠49)) with h | h | ⟨h,x⟩
   ·have f:=H3 (a:=(s[k].toNat:Int)) (b:=48) (by omega)
    have H:=hid (show BitsAt s k from fun _=> .inl h)
    clear h
    go_wp2
    go_round
    case rel=>exact ⟨k+1,by omega,by go_num,BitsAt.step m.out H.out⟩
    case measure=>simp[intOf]; omega
   ·have f:=Ks (a:=(s[k].toNat:Int)) (b:=48) (by omega)
    have v:=H3 (a:=(s[k].toNat:Int)) (b:=49) (by omega)
    have H:=hid (show BitsAt s k from fun _=> .inr h)
    clear h
    go_wp2
    go_round
    case rel=>exact ⟨k+1,by omega,by go_num,BitsAt.step m.out H.out⟩
    case measure=>simp[intOf]; omega
   ·have f:=Ks (a:=(s[k].toNat:Int)) (b:=48) (by omega)
    have v:=Ks (a:=(s[k].toNat:Int)) (b:=49) (by omega)
    have H:=hid (show¬U5 s p from fun y=>by rcases y.1 k l l with e | e <;> contradiction)
    clear h x
    go_wp2
    go_ret
    exact RetB.no H.out (by (repeat (first | with_reducible exact Qr _ | with_reducible assumption | with_reducible apply Nw.alloc | with_reducible apply Nw.drew | with_reducible apply Nw.drewN | (with_reducible refine Qm ?_ ?_; focus (first | (simp; done) | (simp; omega))) | with_reducible refine Qt ‹_› ?_)))
  ·have:k=s.size:=by omega
   subst this
   by_cases g:(s.size:Int)=p
   ·have f:=Kr g
    have H:=hid (show U5 s p from ⟨fun j z=>m.out j z,g⟩)
    clear g
    go_wp2
    go_ret
    exact RetB.of (by simp only[f,H.out]) (by (repeat (first | with_reducible exact Qr _ | with_reducible assumption | with_reducible apply Nw.alloc | with_reducible apply Nw.drew | with_reducible apply Nw.drewN | (with_reducible refine Qm ?_ ?_; focus (first | (simp; done) | (simp; omega))) | with_reducible refine Qt ‹_› ?_)))
   ·have f:=Wd g
    have H:=hid (show¬U5 s p from fun h=>g h.2)
    clear g
    go_wp2
    go_ret
    exact RetB.of (by simp only[f,bt,false_iff]; exact H.out) (by (repeat (first | with_reducible exact Qr _ | with_reducible assumption | with_reducible apply Nw.alloc | with_reducible apply Nw.drew | with_reducible apply Nw.drewN | (with_reducible refine Qm ?_ ?_; focus (first | (simp; done) | (simp; omega))) | with_reducible refine Qt ‹_› ?_)))
theorem QnS (s:ByteArray)(p:Int)(w:World)(r:s.size≤maxLen):
 Calls Tryz.prog 316 #[.string s, .int .i64 p] w (RetB (U5 s p) w):=by
 have u:s.size≤9223372036854775807:=r
 go_enter Tryz.func316,Tryz.ntmps316
 go_wp2
 go_loop [5] (fun i=>∃k:Nat,k≤s.size∧i= .int .i64 k∧∀j,j < k→BitsAt s j) (fun i=>s.size - (intOf i).toNat)
 case atStart=>exact ⟨0,aG _,rfl,fun j h=>absurd h (by omega)⟩
 case round=>
  obtain ⟨k,t,rfl,c⟩:=hrel
  have l:=hid c
  clear c
  by_cases g:k < s.size
  ·rcases (by omega:s[k].toNat=48∨s[k].toNat=49∨(s[k].toNat≠48∧s[k].toNat≠49)) with h | h | ⟨h,n⟩
   ·have d:=H3 (a:=(s[k].toNat:Int)) (b:=48) (by omega)
    have H:=hid (show BitsAt s k from fun _=> .inl h)
    clear h
    go_wp2
    go_round
    case rel=>exact ⟨k+1,by omega,by go_num,BitsAt.step l.out H.out⟩
    case measure=>simp[intOf]; omega
   ·have d:=Ks (a:=(s[k].toNat:Int)) (b:=48) (by omega)
    have m:=H3 (a:=(s[k].toNat:Int)) (b:=49) (by omega)
    have H:=hid (show BitsAt s k from fun _=> .inr h)
    clear h
    go_wp2
    go_round
    case rel=>exact ⟨k+1,by omega,by go_num,BitsAt.step l.out H.out⟩
    case measure=>simp[intOf]; omega
   ·have d:=Ks (a:=(s[k].toNat:Int)) (b:=48) (by omega)
    have m:=Ks (a:=(s[k].toNat:Int)) (b:=49) (by omega)
    have H:=hid (show¬U5 s p from fun o=>by rcases o.1 k g g with e | e <;> contradiction)
    clear h n
    go_wp2
    go_ret
    exact RetB.no H.out (Qr _)
  ·have:k=s.size:=by omega
   subst this
   by_cases f:(s.size:Int)=p
   ·have d:=Kr f
    have H:=hid (show U5 s p from ⟨fun j q=>l.out j q,f⟩)
    clear f
    go_wp2
    go_ret
    exact RetB.of (by simp only[d,H.out]) (Qr _)
   ·have d:=Wd f
    have H:=hid (show¬U5 s p from fun h=>f h.2)
    clear f
    go_wp2
    go_ret
    exact RetB.of (by simp only[d,bt,false_iff]; exact H.out) (Qr _)
theorem QaN (j g:Value)(n:V8)(s:ByteArray)(w:World)(r:Rep QdB w [j,g] n)(B:s.size≤maxLen):
 Calls Tryz.prog 260 #[.agg #[j,g], .string s] w (RetB (Qfe n∧U5 s n.1) w):=by
 have m:=r
 obtain ⟨p,E⟩:=n
 obtain ⟨t,D⟩:=m.open2 rfl
 dsimp only at t D ⊢
 obtain ⟨rfl,z,A⟩:=t.int_
 go_enter Tryz.func260,Tryz.ntmps260
 obtain ⟨u,c,b,d,q⟩:=JC w #[.int .i64 p,g] 48
 have j:=d 0
 have g:=d 1
 simp only[cv,bk,bT] at j g
 have C:w.heap.size < u.heap.size:=by omega
 clear d q
 go_wp2_with fail
 rw[← c]
 have F:=hid c
 clear c
 refine (Qfa _ _ (p,E) _ (r.nw b)).mono ?_
 rintro e H ⟨v,rfl,a,f⟩
 obtain ⟨x,y⟩:=f.cells
 cases v with
 | false=>
  have k:=hid (RetB.not a)
  clear a
  go_wp2
  go_ret
  exact RetB.no (fun h=>k.out h.1) (b.trans f)
 | true=>
  have k:=hid (a.1 rfl)
  clear a
  go_wp2_with fail
  refine (QnS s p _ B).mono ?_
  rintro e w2 ⟨G,rfl,i,o⟩
  have l:=hid i
  clear i
  go_wp2
  go_ret
  exact RetB.of (l.out.trans ⟨fun h=>⟨k.out,h⟩,fun h=>h.2⟩) ((b.trans f).trans o)
end Go.Proofs.YtndabgcpnmeeoaaGreat
namespace Go.Proofs.YtndabgcpnmeeoaaGreat
set_option maxHeartbeats 4000000
set_option maxRecDepth 100000
open Go.RowKit
theorem Rep.pr_flat {a b c d e:Ty}{w:World}{g i j k l:Value}{x:((a.Den×b.Den)×c.Den×d.Den×e.Den)}(h:Rep (.pr (.pr a b) (.pr c (.pr d e))) w [g,i,j,k,l] x)(f:a.wd=1)(t:b.wd=1)(u:c.wd=1)(v:d.wd=1):
 Rep a w [g] x.1.1∧Rep b w [i] x.1.2∧Rep c w [j] x.2.1∧Rep d w [k] x.2.2.1∧Rep e w [l] x.2.2.2:=by
 obtain ⟨m,n⟩:=h.pr2 (show (Ty.pr a b).wd=2 by simp[Ty.wd,f,t])
 obtain ⟨o,p⟩:=m.open2 f
 obtain ⟨q,r,s⟩:=n.open3 u v
 exact ⟨o,p,q,r,s⟩
theorem Rep.pr_net {a b c d e:Ty}{w:World}{f g k l m:Value}{x:((a.Den×b.Den)×c.Den×d.Den×e.Den)}(h:Rep (.pr (.pr a b) (.pr c (.pr d e))) w [f,g,k,l,m] x)(i:a.wd=1)(j:b.wd=1):Rep (.pr a b) w [f,g] x.1:=
 (h.pr2 (show (Ty.pr a b).wd=2 by simp[Ty.wd,i,j])).1
def Qfd (m:Nat)(l:Zl):Prop:=(0≤l.1∧l.1≤(m:Int) - 1)∨(l.1= -1∧l.2=false)
structure StgOk (s:Yz):Prop where
  net:Qfe s.1
  sigs:XN s.2.1
  len:s.2.2.1.length=s.1.2.length
  labs:∀l∈s.2.2.1,Qfd s.2.1.length l
  bits:U5 s.2.2.2 s.1.1
theorem QkY (s:Int)(up:Bool)(m:Nat)(w:World)(y:m≤9223372036854775807):
 Calls Tryz.prog 350 #[.agg #[.int .i64 s, .bool up], .int .i64 m] w (RetB (Qfd m (s,up)) w):=by
 go_enter Tryz.func350,Tryz.ntmps350
 obtain ⟨l,d,b,f,k⟩:=JC w #[.int .i64 s, .bool up] 75
 have n:=f 0
 have o:=f 1
 simp only[cv,bk,bT] at n o
 have u:w.heap.size < l.heap.size:=by omega
 clear f k
 have x:IntKind.i64.wrap ((m:Int) - 1)=(m:Int) - 1:=IntWalk.i64_in _ (by omega)
 go_wp2_with fail
 rw[← d]
 have v:=hid d
 clear d
 refine (KP _ _ _ _).mono ?_
 rintro e z ⟨p,rfl,c,a⟩
 obtain ⟨r,t⟩:=a.cells
 cases p with
 | true=>
  have i:=hid (c.1 rfl)
  clear c
  go_wp2
  go_ret
  exact RetB.yes (.inl i.out) (b.trans a)
 | false=>
  have i:=hid (RetB.not c)
  clear c
  by_cases g:s= -1
  ·have q:=Kr g
   have j:=hid g
   clear g
   cases up with
   | true=>
    go_wp2
    go_ret
    exact RetB.no (fun h=>by rcases h with h | ⟨_,h⟩; exact i.out h; cases h) (b.trans a)
   | false=>
    go_wp2
    go_ret
    exact RetB.yes (.inr ⟨j.out,rfl⟩) (b.trans a)
  ·have q:=Wd g
   have j:=hid g
   clear g
   go_wp2
   go_ret
   exact RetB.no (fun h=>by rcases h with h | ⟨h,_⟩; exact i.out h; exact j.out h) (b.trans a)
theorem QnT (s:Int)(up:Bool)(m:Nat)(w:World)(y:m≤9223372036854775807):
 Calls Tryz.prog 263 #[.agg #[.int .i64 s, .bool up], .int .i64 m] w (RetB (Qfd m (s,up)) w):=by
 go_enter Tryz.func263,Tryz.ntmps263
 obtain ⟨l,d,b,f,k⟩:=JC w #[.int .i64 s, .bool up] 75
 have n:=f 0
 have o:=f 1
 simp only[cv,bk,bT] at n o
 have u:w.heap.size < l.heap.size:=by omega
 clear f k
 have x:IntKind.i64.wrap ((m:Int) - 1)=(m:Int) - 1:=IntWalk.i64_in _ (by omega)
 go_wp2_with fail
 rw[← d]
 have v:=hid d
 clear d
 refine (W6 _ _ _ _).mono ?_
 rintro e z ⟨p,rfl,c,a⟩
 obtain ⟨r,t⟩:=a.cells
 cases p with
 | true=>
  have i:=hid (c.1 rfl)
  clear c
  go_wp2
  go_ret
  exact RetB.yes (.inl i.out) (b.trans a)
 | false=>
  have i:=hid (RetB.not c)
  clear c
  by_cases g:s= -1
  ·have q:=Kr g
   have j:=hid g
   clear g
   cases up with
   | true=>
    go_wp2
    go_ret
    exact RetB.no (fun h=>by rcases h with h | ⟨_,h⟩; exact i.out h; cases h) (b.trans a)
   | false=>
    go_wp2
    go_ret
    exact RetB.yes (.inr ⟨j.out,rfl⟩) (b.trans a)
  ·have q:=Wd g
   have j:=hid g
   clear g
   cases up with
   | true=>
    go_wp2
    go_ret
    exact RetB.no (fun h=>by rcases h with h | ⟨h,_⟩; exact i.out h; exact j.out h) (b.trans a)
   | false=>
    go_wp2
    go_ret
    exact RetB.no (fun h=>by rcases h with h | ⟨h,_⟩; exact i.out h; exact j.out h) (b.trans a)
def LabAt (m:Nat)(ls:List Zl)(k:Nat):Prop:=∀x,ls[k]? =some x→Qfd m x
theorem LabAt.step {m:Nat}{ls:List Zl}{k:Nat}(h:∀j,j < k→LabAt m ls j)(a:LabAt m ls k):∀j,j < k+1→LabAt m ls j:=by
 intro j b
 by_cases e:j=k
 ·subst e; exact a
 ·exact h j (by omega)
theorem QqC {m:Nat}{ls:List Zl}(h:∀j,j < ls.length→LabAt m ls j):∀l∈ls,Qfd m l:=by
 intro l b
 obtain ⟨j,a⟩:=aN.1 b
 exact h j (ai.1 a).1 l a
theorem QnZ (L M N O P:Value)(s:Yz)(w:World)(hn:Rep QcI w [L,M,N,O,P] s):
 Calls Tryz.prog 253 #[.agg #[L,M,N,O,P]] w (RetB (StgOk s) w):=by
 have rN:=hn.pr_net rfl rfl
 obtain ⟨⟨p,m⟩,E,f,K⟩:=s
 obtain ⟨rP,rT,rS,rL,rM⟩:=hn.pr_flat rfl rfl rfl rfl
 dsimp only at rP rT rS rL rM rN
 obtain ⟨rfl, -, -⟩:=rP.int_
 obtain ⟨AT,cT,rfl,b5,X⟩:=rT.slv
 obtain ⟨AS,cS,rfl,b4,W⟩:=rS.slv
 obtain ⟨AL,cL,rfl,b0,V⟩:=rL.slv
 obtain ⟨rfl,a7⟩:=rM.str_
 have b7:m.length≤9223372036854775807:=by unfold maxLen at X; omega
 have Z:E.length≤9223372036854775807:=by unfold maxLen at W; omega
 have b6:f.length≤9223372036854775807:=by unfold maxLen at V; omega
 have R:=hid (fun (h:StgOk ((p,m),E,f,K))=>h)
 have F:=hid (fun h1 h2 h3 h4 h5=>(StgOk.mk h1 h2 h3 h4 h5:StgOk ((p,m),E,f,K)))
 generalize G:StgOk ((p,m),E,f,K)=PP at*
 have c:=hid G
 clear G R rP rM
 obtain ⟨S,A,d,g,a8⟩:=JC w #[.int .i64 p, .slice AT m.length cT, .slice AS E.length cS, .slice AL f.length cL, .string K] 51
 have L:=g 0
 have M:=g 1
 have N:=g 2
 have O:=g 3
 have P:=g 4
 simp only[cv,bk,bT] at L M N O P
 have b8:w.heap.size < S.heap.size:=by omega
 clear g a8
 go_enter Tryz.func253,Tryz.ntmps253
 go_wp2
 rw[← A]
 have HW:=hid A
 clear A
 go_loopw [8] (fun i wr=>∃k:Nat,k≤f.length∧i= .int .i64 k∧(∀j,j < k→LabAt E.length f j)∧Nw S wr) (fun i _=>f.length - (intOf i).toNat)
 case atStart=>exact ⟨0,aG _,rfl,fun j h=>absurd h (by omega),Qr _⟩
 case round=>
  obtain ⟨wo,rfl⟩:∃wo:World,wo=wr:=⟨_,rfl⟩
  obtain ⟨k,hk,rfl,t,J⟩:=hrel
  have HY:=hid t
  clear t
  obtain ⟨U,Y⟩:=J.cells
  have b9:w.heap.size < wo.heap.size:=by have:=J.size; omega
  by_cases I:k < f.length
  ·obtain ⟨b,o,v0,v1,rfl,hx,c0,c1⟩:=((rL.nw d).nw J).at2 rfl (ae I)
   have HX:=hid (ae I)
   generalize a9:f[k]=x at*
   clear a9
   obtain ⟨sg,up⟩:=x
   obtain ⟨r0,r1⟩:=hx.open2 rfl
   dsimp only at r0 r1
   obtain ⟨rfl, -, -⟩:=r0.int_
   obtain rfl:=r1.bool_
   clear hx r0 r1
   go_wp2_with fail
   refine (QkY _ _ _ _ Z).mono ?_
   rintro e w1 ⟨T,rfl,a,D⟩
   obtain ⟨B,C⟩:=D.cells
   cases T with
   | false=>
    have u:=hid (RetB.not a)
    clear a
    go_wp2
    go_ret
    exact RetB.no (fun h=>by rw[← c.out] at h; exact u.out (h.labs _ (ah HX.out))) (by (repeat (first | with_reducible exact Qr _ | with_reducible assumption | with_reducible apply Nw.alloc | with_reducible apply Nw.drew | with_reducible apply Nw.drewN | (with_reducible refine Qm ?_ ?_; focus (first | (simp; done) | (simp; omega))) | with_reducible refine Qt ‹_› ?_)))
   | true=>
    have u:=hid (a.1 rfl)
    clear a
    go_wp2
    go_roundw
    case rel=>exact ⟨k+1,by omega,by go_num,LabAt.step HY.out (fun y hy=>by
     rw[HX.out] at hy
     cases hy
     exact u.out),by (repeat (first | with_reducible exact Qr _ | with_reducible assumption | with_reducible apply Nw.alloc | with_reducible apply Nw.drew | with_reducible apply Nw.drewN | (with_reducible refine Qm ?_ ?_; focus (first | (simp; done) | (simp; omega))) | with_reducible refine Qt ‹_› ?_))⟩
    case measure=>simp[intOf]; omega
  ·have:k=f.length:=by omega
   subst this
   go_wp2_with fail
   refine (QnX _ _ (p,m) _ ((rN.nw d).nw J)).mono ?_
   rintro e w1 ⟨T,rfl,a,D⟩
   have n:Nw S w1:=J.trans D
   clear U Y
   obtain ⟨B,C⟩:=n.cells
   cases T with
   | false=>
    have u:=hid (RetB.not a)
    clear a
    go_wp2
    go_ret
    exact RetB.no (fun h=>by rw[← c.out] at h; exact u.out h.net) (d.trans n)
   | true=>
    have u:=hid (a.1 rfl)
    clear a
    go_wp2_with fail
    refine (QaF _ E _ (rS.nw (d.trans n))).mono ?_
    rintro e w2 ⟨b2,rfl,q,a5⟩
    have l:=n.trans a5
    clear B C
    obtain ⟨B,C⟩:=l.cells
    cases b2 with
    | false=>
     have v:=hid (RetB.not q)
     clear q
     go_wp2
     go_ret
     exact RetB.no (fun h=>by rw[← c.out] at h; exact v.out h.sigs) (d.trans l)
    | true=>
     have v:=hid (q.1 rfl)
     clear q
     by_cases r:f.length=m.length
     ·have e1:((f.length:Int)==(m.length:Int))=true:=Kr (by omega)
      have z:=hid r
      clear r
      go_wp2_with fail
      refine (QnY _ _ (p,m) K _ (rN.nw (d.trans l)) a7).mono ?_
      rintro e w3 ⟨b3,rfl,H,a6⟩
      have Q:=hid H
      clear H
      go_wp2
      go_ret
      exact RetB.of (Q.out.trans ⟨fun h=>by rw[← c.out]; exact c.out▸(c.out▸F.out u.out v.out z.out (QqC HY.out) h),fun h=>by rw[← c.out] at h; exact h.bits⟩) ((d.trans l).trans a6)
     ·have e1:((f.length:Int)==(m.length:Int))=false:=Wd (by omega)
      have z:=hid r
      clear r
      go_wp2
      go_ret
      exact RetB.no (fun h=>by rw[← c.out] at h; exact z.out h.len) (d.trans l)
theorem Qa8:Qh Tryz.prog 262:=fun a W=>Qc Tryz.func262 (by kernel_rfl) rfl a W
theorem Qd1 (k l:Value)(x:Zl)(g:Nat)(n:Option Addr)(m c:Nat)(w:World)(j:Rep Yv w [k,l] x)(q:w.cell? ⟨g,2,none⟩=some (.slice n m c))(r:m≤9223372036854775807):
 Calls Tryz.prog 262 #[.agg #[k,l], .pointer (some ⟨g,0,none⟩)] w (RetB (¬Qfd m x) w):=by
 obtain ⟨sg,t⟩:=x
 obtain ⟨d,f⟩:=j.open2 rfl
 dsimp only at d f
 obtain ⟨rfl, -, -⟩:=d.int_
 obtain rfl:=f.bool_
 have s:g < w.heap.size:=cM w _ q
 clear j d f
 go_enter Tryz.func262,Tryz.ntmps262
 go_wp2_with fail
 refine (QnT _ _ _ _ r).mono ?_
 rintro e u ⟨p,rfl,a,b⟩
 have o:=hid a
 clear a
 go_wp2
 go_ret
 refine RetB.of ?_ (((Qr _).alloc _).trans b)
 have i:=o.out
 cases p with
 | false=>simp only[Bool.not_false,true_iff]; exact fun h=>by have:=i.2 h; cases this
 | true=>simp only[cW,bt,false_iff]; exact fun h=>h (i.1 rfl)
theorem Qfb (E F z G H:Value)(s:Yz)(w:World)(hn:Rep QcI w [E,F,z,G,H] s):
 Calls Tryz.prog 123 #[.agg #[E,F,z,G,H]] w (RetB (StgOk s) w):=by
 have rN:=hn.pr_net rfl rfl
 obtain ⟨⟨p,n⟩,v,m,J⟩:=s
 obtain ⟨Z,rT,rS,X,Y⟩:=hn.pr_flat rfl rfl rfl rfl
 dsimp only at Z rT rS X Y rN
 obtain ⟨rfl, -, -⟩:=Z.int_
 obtain ⟨AT,cT,rfl,a8,N⟩:=rT.slv
 obtain ⟨AS,cS,rfl,a7,M⟩:=rS.slv
 obtain ⟨AL,cL,rfl,a6,L⟩:=X.slv
 obtain ⟨rfl,U⟩:=Y.str_
 have b0:n.length≤9223372036854775807:=by unfold maxLen at N; omega
 have P:v.length≤9223372036854775807:=by unfold maxLen at M; omega
 have a9:m.length≤9223372036854775807:=by unfold maxLen at L; omega
 have x:=hid (fun h1 h2 I h4 h5=>(StgOk.mk h1 h2 I h4 h5:StgOk ((p,n),v,m,J)))
 generalize A:StgOk ((p,n),v,m,J)=PP at*
 have a:=hid A
 clear A Z Y
 obtain ⟨W0,r,b,d,V⟩:=JC w #[.int .i64 p, .slice AT n.length cT, .slice AS v.length cS, .slice AL m.length cL, .string J] 51
 have E:=d 0
 have F:=d 1
 have z:=d 2
 have G:=d 3
 have H:=d 4
 simp only[cv,bk,bT] at E F z G H
 have T:w.heap.size < W0.heap.size:=by omega
 clear d V
 go_enter Tryz.func123,Tryz.ntmps123
 go_wp2_with fail
 rw[← r]
 have HW:=hid r
 clear r
 refine (QaN _ _ (p,n) J _ (rN.nw b) U).mono ?_
 rintro e w1 ⟨b1,rfl,f,k⟩
 obtain ⟨t,C⟩:=k.cells
 cases b1 with
 | false=>
  have D:=hid (RetB.not f)
  clear f
  go_wp2
  go_ret
  exact RetB.no (fun h=>by rw[← a.out] at h; exact D.out ⟨h.net,h.bits⟩) (b.trans k)
 | true=>
  have D:=hid (f.1 rfl)
  clear f
  go_wp2_with fail
  refine (Hi _ v _ (rS.nw (b.trans k))).mono ?_
  rintro e w2 ⟨b2,rfl,g,Q⟩
  have c:=k.trans Q
  clear t C
  obtain ⟨t,C⟩:=c.cells
  cases b2 with
  | false=>
   have o:=hid (RetB.not g)
   clear g
   go_wp2
   go_ret
   exact RetB.no (fun h=>by rw[← a.out] at h; exact o.out h.sigs) (b.trans c)
  | true=>
   have o:=hid (g.1 rfl)
   clear g
   by_cases j:m.length=n.length
   ·have e1:((m.length:Int)==(n.length:Int))=true:=Kr (by omega)
    have q:=hid j
    clear j
    go_wp2_with fail
    refine (JV (fun l=>¬Qfd v.length l) m _ _ _ _ (X.nw (b.trans c)) Qa8 ?_).mono ?_
    ·intro i y W u0 u1 a5 S hy
     exact Qd1 u0 u1 y _ AS v.length cS W hy (by rw[(S.cells).1 _ _ (by have:=c.size; omega),t _ _ T]; exact z) P
    ·rintro e w3 ⟨b3,rfl,B,R⟩
     have K:=hid B
     clear B
     go_wp2
     go_ret
     refine RetB.of ?_ ((b.trans c).trans R)
     have I:=K.out
     cases b3 with
     | false=>
      simp only[Bool.not_false,true_iff]
      rw[← a.out]
      refine a.out▸(a.out▸x.out D.out.1 o.out q.out (fun l O=> ?_) D.out.2)
      exact ce fun u=>by
       have:=I.2 ⟨l,O,u⟩
       cases this
     | true=>
      simp only[cW,bt,false_iff]
      intro h
      rw[← a.out] at h
      obtain ⟨l,O,u⟩:=I.1 rfl
      exact u (h.labs l O)
   ·have e1:((m.length:Int)==(n.length:Int))=false:=Wd (by omega)
    have q:=hid j
    clear j
    go_wp2
    go_ret
    exact RetB.no (fun h=>by rw[← a.out] at h; exact q.out h.len) (b.trans c)
end Go.Proofs.YtndabgcpnmeeoaaGreat
namespace Go.Proofs.YtndabgcpnmeeoaaGreat
set_option maxHeartbeats 4000000
set_option maxRecDepth 100000
open Go.RowKit
def Qcg (ops:Array Oper)(n:Nat):Bool:=
 (List.range n).all fun i => match ops[i]? with
  | some o=>(o.after.all fun e=> !Region.binds .any e||decide (e.on < i))&&(match o.guard with | some (g,_)=>decide (g < n) | none=>true)
  | none=>false
def QxT (l:List Oper)(n:Nat):Bool:=
 decide (n < l.length)&&Qcg l.toArray n&&(List.range n).all (fun i=>Region.waitsFor .any l.toArray n i)&&Region.chainB .any l.toArray n&&
  Region.seqB .any l.toArray (l.length - n) n (Array.replicate n true++Array.replicate (l.length - n) false)
def QxQ (P:Program)(l:List Oper)(n:Nat)(Q:Exit→Act→World→Prop):Exit→Act→World→Prop
 | .normal,a,w=>wpList P l.toArray Q (l.drop n) a w
 | e,a,w=>Q e a w
section
variable {P:Program}{Q:Exit→Act→World→Prop}{a:Act}{w:World}
theorem QkQ {n g:Nat}{c:Array Bool}(d:c.size=n)(b:Bool){i:Nat}(hi:i < n):(c++Array.replicate g false).getD i b=c.getD i b:=by
 simp[hi,d,Array.getElem_append_left,show i < n+g by omega]
theorem QlS {ops:Array Oper}{n:Nat}{b:Array Bool}(m:Qcg ops n=true)(j:b.size=n)(r:∀i,i < n→i∉Region.ready .any ops (b++Array.replicate (ops.size - n) false))(t:n≤ops.size):∀i,i < n→b.getD i true=true:=by
 intro i
 induction i using Nat.strongRecOn with
 | _ i s=>
  intro d
  cases h:b.getD i true with
  | true=>rfl
  | false=>
   refine absurd (mem_ready.2 ⟨by rw[QkQ j _ d]; exact h, ?_⟩) (r i d)
   have c:=ak.1 m i (cj.2 d)
   cases g:ops[i]? with
   | none=>rw[g] at c; cases c
   | some o=>
    rw[g] at c
    simp only[aI,Array.all_eq_true_iff_forall_mem,bU,bO,aQ] at c
    refine ⟨o,rfl,fun e q p=> ?_⟩
    have f:=c.1 e q
    rw[p] at f
    have k:e.on < i:=by simpa using f
    rw[QkQ j _ (by omega)]
    have:=s e.on k (by omega)
    have l:e.on < b.size:=by omega
    simpa [l] using this
end
end Go.Proofs.YtndabgcpnmeeoaaGreat
namespace Go.Proofs.YtndabgcpnmeeoaaGreat
set_option maxHeartbeats 4000000
set_option maxRecDepth 100000
open Go.RowKit
structure Mw (B M:Nat) (w w':World):Prop where
  os:w'.os=w.os
  tape:w'.tape=w.tape
  output:w'.output=w.output
  size:w.heap.size≤w'.heap.size
  block:∀k,k < w.heap.size→(k < B∨M≤k)→w'.heap[k]? =w.heap[k]?
theorem Mw.nw {a w w':World}{B M:Nat}(h:Mw B M w w')(b:Nw a w)(d:a.heap.size≤B):Nw a w':=
 ⟨h.os.trans b.os,h.tape.trans b.tape,h.output.trans b.output,aU b.size h.size,fun k c=>(h.block k (bp c b.size) (.inl (bp c d))).trans (Below.block b k c)⟩
theorem Mw.trans {a b c:World}{B M:Nat}(h:Mw B M a b)(k:Mw B M b c):Mw B M a c:=
 ⟨k.os.trans h.os,k.tape.trans h.tape,k.output.trans h.output,aU h.size k.size,fun g d f=>(k.block g (bp d h.size) f).trans (h.block g d f)⟩
theorem Mw.mono {B M a b:Nat}{w w':World}(h:Mw B M w w')(d:a≤B)(f:M≤b):Mw a b w w':=
 ⟨h.os,h.tape,h.output,h.size,fun k c g=>h.block k c (by omega)⟩
theorem Mw.cells {B M:Nat}{w w':World}(h:Mw B M w w'):(∀b o,b < w.heap.size→(b < B∨M≤b)→w'.cell? ⟨b,o,none⟩=w.cell? ⟨b,o,none⟩)∧
 (∀b o,b < w.heap.size→(b < B∨M≤b)→w'.frozen? ⟨b,o,none⟩=w.frozen? ⟨b,o,none⟩):=
 ⟨fun b o a c=>cX (h.block b a c),fun b o a c=>World.frozen?_of_block (h.block b a c)⟩
structure ElemInfo (P:Program) (E:TypeId) (e:Ty):Prop where
  ex:∃i z,P.info? E=some i∧i.zero=some z∧i.size=e.wd∧i.bytes≤65536∧z.cells.size=e.wd
def Wx (P:Program)(E:TypeId)(n:Nat):Bool:=match P.info? E with
 | some i=>match i.zero with
  | some z=>i.size==n&&decide (i.bytes≤65536)&&z.cells.size==n
  | none=>false
 | none=>false
theorem Qi4 {P:Program}{E:TypeId}{e:Ty}(h:Wx P E e.wd=true):ElemInfo P E e:=by
 unfold Wx at h
 cases a:P.info? E with
 | none=>rw[a] at h; cases h
 | some i=>
  rw[a] at h
  simp only at h
  cases b:i.zero with
  | none=>rw[b] at h; cases h
  | some z=>
   rw[b] at h
   simp only[aI,beq_iff_eq,aQ] at h
   exact ⟨i,z,a,b,h.1.1,h.1.2,h.2⟩
section
variable {E:TypeId}{e:Ty}{w:World}
theorem Own.row {fp:List Nat}{v:Value}{xs:List e.Den}(h:Own (.sl E e) w fp [v] xs):∃cs fps,w.ownsRow 0 E e.wd v xs.length cs∧OwnL (Own e w) fps cs xs∧((v.ownBlock=none∧fp=[]∧fps=[])∨∃g,v.ownBlock=some g∧fp=g :: fps):=by
 rcases h with ⟨rfl,h,f⟩ | ⟨g,a,b,fps,rfl,c,i,j,k,l,d⟩
 ·subst f
  simp only[aC,and_true] at h
  subst h
  exact ⟨[],[],World.ownsRow_nil _ _ _ _,⟨rfl,rfl⟩, .inl ⟨rfl,rfl,rfl⟩⟩
 ·simp only[aC,and_true] at c
  subst c
  refine ⟨_,fps,⟨?_, .inr ⟨g,a,b,rfl,aG _,i,j,k,l,rfl⟩⟩,d, .inr ⟨g,rfl,rfl⟩⟩
  exact d.len
theorem QlL {fps:List Nat}{v:Value}{cs:List Value}{xs:List e.Den}{n:Nat}(m:n=xs.length)(h:w.ownsRow 0 E e.wd v n cs)(c:OwnL (Own e w) fps cs xs):
 ∃fp,Own (.sl E e) w fp [v] xs∧((v.ownBlock=none∧fp=fps)∨∃g,v.ownBlock=some g∧fp=g :: fps):=by
 subst m
 rcases h.2 with ⟨rfl,d⟩ | ⟨g,a,b,rfl,_,f,i,j,k,l⟩
 ·obtain rfl:=cg d
  obtain ⟨rfl,_⟩:=c
  exact ⟨[], .inl ⟨rfl,rfl,rfl⟩, .inl ⟨rfl,rfl⟩⟩
 ·exact ⟨g :: fps, .inr ⟨g,a,b,fps,rfl,rfl,f,i,j,k,by rw[l]; exact c⟩, .inr ⟨g,rfl,rfl⟩⟩
theorem OwnL.one {fp:List Nat}:∀{xs:List e.Den} {fp:List Nat} {cs:List Value},OwnL (Own e w) fp cs xs→∀u∈cs,u.oneCell'=true
 | [],_,_,h=>by rw[h.2]; simp
 | _ :: _,_,_,⟨_,_,_,_,_,h2,h3,h4⟩=>by
  intro u a
  rw[h2] at a
  rcases aP.1 a with a | a
  ·exact Rep.one h3.rep u a
  ·exact OwnL.one (fp:=[]) h4 u a
theorem OwnL.lt {xs:List e.Den}{fp:List Nat}{cs:List Value}(h:OwnL (Own e w) fp cs xs):∀g∈fp,g < w.heap.size:=by
 induction xs generalizing fp cs with
 | nil=>rw[h.1]; simp
 | cons x xs d=>
  obtain ⟨f,i,c1,c2,rfl,rfl,b,c⟩:=h
  intro g a
  rcases aP.1 a with a | a
  ·exact Own.lt b g a
  ·exact d c g a
variable {P:Program}
def Ty.flat:Ty→Bool
 | .pr a b=>a.flat&&b.flat
 | .sl _ _=>false
 | _=>true
theorem Rep.own:∀{t:Ty} {w:World} {cs:List Value} {x:t.Den},Rep t w cs x→t.flat=true→Own t w [] cs x
 | .int,_,_,_,h,_=>⟨rfl,h⟩
 | .bool,_,_,_,h,_=>⟨rfl,h⟩
 | .str,_,_,_,h,_=>⟨rfl,h⟩
 | .u8,_,_,_,h,_=>⟨rfl,h⟩
 | .vl,_,_,_,h,_=>⟨rfl,h⟩
 | .sl _ _,_,_,_,_,h=>by cases h
 | .pr a b,_,_,_,⟨l,r,h,h1,h2⟩,hf=>by
  simp only[Ty.flat,aI] at hf
  exact ⟨[],[],l,r,rfl,h,Rep.own h1 hf.1,Rep.own h2 hf.2⟩
theorem Qgi (k:e.flat=true)(b:Nat):∀(ys:List e.Den) (o:Nat),(∀i x,ys[i]? =some x→∃c,Rep e w c x∧∀j u,c[j]? =some u→w.cell? ⟨b,o+i*e.wd+j,none⟩=some u)→
 ∃a,OwnL (Own e w) [] a ys∧∀j u,a[j]? =some u→w.cell? ⟨b,o+j,none⟩=some u
 | [],_,_=>⟨[],⟨rfl,rfl⟩,by simp⟩
 | y :: ys,o,h=>by
  obtain ⟨c,g,l⟩:=h 0 y rfl
  obtain ⟨a,m,n⟩:=Qgi k b ys (o+e.wd) (fun i x s=>by
   obtain ⟨f,p,q⟩:=h (i+1) x s
   refine ⟨f,p,fun j u d=> ?_⟩
   rw[← q j u d]
   congr 2
   rw[bM]
   omega)
  refine ⟨c++a,⟨[],[],c,a,rfl,rfl,g.own k,m⟩,fun j u d=> ?_⟩
  by_cases r:j < c.length
  ·rw[bo r] at d
   have:=l j u d
   simpa using this
  ·rw[bd (by omega)] at d
   rw[← n _ _ d]
   congr 2
   have:=g.len
   omega
theorem Rep.src {A:Option Addr}{n c M:Nat}{ys:List e.Den}(q:Rep (.sl E e) w [.slice A n c] ys)(m:e.flat=true):n=ys.length∧((A=none∧n=0)∨∃d a,A=some d∧FrsL e M M w a ys∧∀j u,a[j]? =some u→w.cell? (d.add j)=some u):=by
 obtain ⟨s,t,g,v,x,h⟩:=q
 simp only[aC,Value.slice.injEq,and_true] at g
 obtain ⟨rfl,rfl,rfl⟩:=g
 refine ⟨rfl, ?_⟩
 rcases Nat.eq_zero_or_pos ys.length with f | p
 ·cases A with
  | none=>exact .inl ⟨rfl,f⟩
  | some d=>
   obtain rfl:=cg f
   exact .inr ⟨d,[],rfl,⟨[],⟨rfl,rfl⟩,bL,by simp⟩,by simp⟩
 ·obtain ⟨b,o,rfl,i⟩:=h p
  obtain ⟨a,k,l⟩:=Qgi m b ys o i
  exact .inr ⟨⟨b,o,none⟩,a,rfl,⟨[],k,bL,by simp⟩,fun j u r=>by rw[Addr.add_lit]; exact l j u r⟩
theorem QwJ (w:World)(E:TypeId)(e:Ty):Frs (.sl E e) w.heap.size (w.heap.size+1) (w.alloc (.cells #[] E)) [.slice (some ⟨w.heap.size,0,none⟩) 0 0] []:=
 ⟨[w.heap.size], .inr ⟨w.heap.size,0, #[],[],rfl,rfl,heap_alloc_new w _,aJ _,aG _,by simp,by simpa using ⟨rfl,rfl⟩⟩,by simp,by simp⟩
end
end Go.Proofs.YtndabgcpnmeeoaaGreat
