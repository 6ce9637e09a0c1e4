import Derived.Test.YtjfpbcmfbnnooaaGreatPStr
import Derived.StillTail
import Derived.Deep.RegionHeld3
import Derived.Maps.AppendAt
import Derived.Laws.OwnMore
set_option linter.all false
namespace Go.Proofs.YtjfpbcmfbnnooaaGreat
open Tryz
set_option maxHeartbeats 4000000
set_option maxRecDepth 100000
open Go.RowKit
def SigOkAt (xs:List Qs)(k:Nat):Prop:=∀x,xs[k]? =some x→YP x.1∧(1≤x.2∧x.2≤3)∧∀j y,j<k→xs[j]? =some y→y.1≠x.1
def Z4 (xs:List Qs):Prop:=(∀k,k<xs.length→SigOkAt xs k)∧1≤xs.length∧xs.length≤8
def SigOkAt.step {xs:List Qs}{k:Nat}(h:∀j,j<k→SigOkAt xs j)(a:SigOkAt xs k):∀j,j<k+1→SigOkAt xs j:=by
 intro j b
 by_cases e:j=k
 ·subst e;exact a
 ·exact h j (by omega)
theorem QaT (v:Value)(xs:List Qs)(w:World)(hr:Rep (.sl 103 Xy) w [v] xs):Calls prog 123 #[v] w (RetB (Z4 xs) w):=by
 obtain ⟨A,c,rfl,hl,hc⟩:=hr.slv
 have hm:xs.length≤9223372036854775807:=by unfold maxLen at hc;omega
 go_enter func123,ntmps123
 go_wp2
 go_loopw [9] (fun i wr=>∃k:Nat,k≤xs.length∧i= .int .i64 k∧(∀j,j<k→SigOkAt xs j)∧Nw w wr) (fun i _=>xs.length - (intOf i).toNat)
 case atStart=>exact ⟨0,aL _,rfl,fun j h=>absurd h (by omega),Q4 _⟩
 case round=>
  obtain ⟨wo,rfl⟩:∃wo:World,wo=wr:=⟨_,rfl⟩
  obtain ⟨k,hk,rfl,hyes,hq⟩:=hrel
  have HY:=hid hyes
  clear hyes
  by_cases hlt:k<xs.length
  ·obtain ⟨b,o,v0,v1,rfl,hx,c0,c1⟩:=(hr.nw hq).at2 rfl (ak hlt)
   have HX:=hid (ak hlt)
   generalize hxk:xs[k]=x at*
   clear hxk
   obtain ⟨s,n⟩:=x
   obtain ⟨r0,r1⟩:=hx.open2 rfl
   obtain ⟨rfl,hs⟩:=r0.str_
   obtain ⟨rfl,-⟩:=r1.int_
   have Hs:=hid hs
   clear hx r0 r1 hs
   go_wp2_with fail
   refine (Qgt s _ Hs.out).mono ?_
   rintro e w1 ⟨b1,rfl,hb1,hq1⟩
   obtain ⟨hc1,hf1⟩:=hq1.cells
   have hz1:wo.heap.size<w1.heap.size:=by (have hz2:=hq1.size;simp at hz2;omega)
   cases b1 with
   | false=>
    have HB1:=hid (RetB.not hb1)
    clear hb1
    go_wp2
    go_ret
    exact RetB.no (fun h=>HB1.out (h.1 k hlt _ HX.out).1) (by (repeat (first|with_reducible exact Q4 _|with_reducible assumption|with_reducible apply Nw.alloc|with_reducible apply Nw.drew|with_reducible apply Nw.drewN|(with_reducible refine Q8 ?_ ?_;focus (first|(simp;done)|(simp;omega)))|with_reducible refine ZA ‹_› ?_)))
   | true=>
    have HB1:=hid (hb1.1 rfl)
    clear hb1
    go_wp2_with fail
    refine (KL n _ _ _).mono ?_
    rintro e w2 ⟨b2,rfl,hb2,hq2⟩
    obtain ⟨hc2,hf2⟩:=hq2.cells
    have hz3:wo.heap.size<w2.heap.size:=by (have hz2:=hq2.size;omega)
    cases b2 with
    | false=>
     have HB2:=hid (RetB.not hb2)
     clear hb2
     go_wp2
     go_ret
     exact RetB.no (fun h=>HB2.out (h.1 k hlt _ HX.out).2.1) (by (repeat (first|with_reducible exact Q4 _|with_reducible assumption|with_reducible apply Nw.alloc|with_reducible apply Nw.drew|with_reducible apply Nw.drewN|(with_reducible refine Q8 ?_ ?_;focus (first|(simp;done)|(simp;omega)))|with_reducible refine ZA ‹_› ?_)))
    | true=>
     have HB2:=hid (hb2.1 rfl)
     clear hb2
     have hbx:w2.cell? ⟨wo.heap.size,0,none⟩=some (.string s):=by go_simp
     have hN2:Nw w w2:=by (repeat (first|with_reducible exact Q4 _|with_reducible assumption|with_reducible apply Nw.alloc|with_reducible apply Nw.drew|with_reducible apply Nw.drewN|(with_reducible refine Q8 ?_ ?_;focus (first|(simp;done)|(simp;omega)))|with_reducible refine ZA ‹_› ?_))
     have hk9:k≤c:=by omega
     clear hc1 hf1 hc2 hf2 c0 c1 hq1 hq2
     go_wp2
     go_loopw [28] (fun i wi=>∃m:Nat,m≤k∧i= .int .i64 m∧(∀j y,j<m→xs[j]? =some y→y.1≠s)∧Nw w2 wi) (fun i _=>k - (intOf i).toNat)
     case atStart=>exact ⟨0,aL _,rfl,fun j y h=>absurd h (by omega),Q4 _⟩
     case round=>
      obtain ⟨m,hm2,rfl,hno,hqi⟩:=hrel
      have HN:=hid hno
      clear hno
      obtain ⟨hci,hfi⟩:=hqi.cells
      have hzi:wo.heap.size<wr.heap.size:=by have:=hqi.size;omega
      by_cases hlm:m<k
      ·obtain ⟨b',o',u0,u1,e',hy,d0,d1⟩:=((hr.nw hN2).nw hqi).at2 rfl (ak (show m<xs.length by omega))
       have HYm:=hid (ak (show m<xs.length by omega))
       generalize hym:xs[m]=y at*
       clear hym
       obtain ⟨t,n'⟩:=y
       obtain ⟨s0,s1⟩:=hy.open2 rfl
       obtain ⟨rfl,-⟩:=s0.str_
       obtain ⟨rfl,-⟩:=s1.int_
       simp only[br,Addr.mk.injEq,and_true] at e'
       obtain ⟨rfl,rfl⟩:=e'
       clear hy s0 s1
       go_wp2
       ·rename_i he
        go_ret
        exact RetB.no (fun h=>(h.1 k hlt _ HX.out).2.2 m _ hlm HYm.out (QvV he).symm) (by (repeat (first|with_reducible exact Q4 _|with_reducible assumption|with_reducible apply Nw.alloc|with_reducible apply Nw.drew|with_reducible apply Nw.drewN|(with_reducible refine Q8 ?_ ?_;focus (first|(simp;done)|(simp;omega)))|with_reducible refine ZA ‹_› ?_)))
       ·go_roundw
        case rel=>
         rename_i he
         exact ⟨m+1,by omega,by go_num,fun j y hj hy=>by
          by_cases e:j=m
          ·subst e
           rw[HYm.out] at hy
           cases hy
           exact fun e=>QBV he e.symm
          ·exact HN.out j y (by omega) hy,by (repeat (first|with_reducible exact Q4 _|with_reducible assumption|with_reducible apply Nw.alloc|with_reducible apply Nw.drew|with_reducible apply Nw.drewN|(with_reducible refine Q8 ?_ ?_;focus (first|(simp;done)|(simp;omega)))|with_reducible refine ZA ‹_› ?_))⟩
        case measure=>simp[intOf];omega
      ·go_wp2
       go_roundw
       case rel=>exact ⟨k+1,by omega,by go_num,SigOkAt.step HY.out (fun x hx=>by
        rw[HX.out] at hx
        cases hx
        exact ⟨HB1.out,HB2.out,fun j y hj hy=>HN.out j y (by omega) hy⟩),by (repeat (first|with_reducible exact Q4 _|with_reducible assumption|with_reducible apply Nw.alloc|with_reducible apply Nw.drew|with_reducible apply Nw.drewN|(with_reducible refine Q8 ?_ ?_;focus (first|(simp;done)|(simp;omega)))|with_reducible refine ZA ‹_› ?_))⟩
       case measure=>simp[intOf];omega
  ·have:k=xs.length:=by omega
   subst this
   go_wp2_with (go_at_call 104;refine (KL _ _ _ _).mono ?_;rintro e w1 ⟨b,rfl,hb,hq1⟩)
   go_ret
   exact RetB.of (hb.trans ⟨fun h=>⟨HY.out,by omega,by omega⟩,fun h=>by have:=h.2;omega⟩) (hq.trans hq1)
def Qbs:=En func140
def Qd3 (e f:Value)(x:Qs)(g:Nat)(s:BA)(W:World)(b:Rep Xy W [e,f] x)(hb:W.cell? ⟨g,0,none⟩=some (.string s)):
 Calls prog 140 #[.agg #[e,f],.pointer (some ⟨g,0,none⟩)] W (RetB (x.1=s) W):=by
 obtain ⟨t,n⟩:=x
 obtain ⟨c,d⟩:=b.open2 rfl
 obtain ⟨rfl,-⟩:=c.str_
 obtain ⟨rfl,-⟩:=d.int_
 have i:g<W.heap.size:=World.block_lt_of_cell? W _ hb
 clear b c d
 by_cases h:t=s
 ·have a:=QvX h
  have H:=hid h
  clear h
  go_enter func140,ntmps140
  go_wp2
  go_ret
  exact RetB.of (by simp only[a,H.out]) ((Q4 _).alloc _)
 ·have a:=QvW h
  have H:=hid h
  clear h
  go_enter func140,ntmps140
  go_wp2
  go_ret
  exact RetB.of (by simp only[a,H.out];simp) ((Q4 _).alloc _)
theorem Qfn (v:Value)(xs:List Qs)(w:World)(hr:Rep (.sl 103 Xy) w [v] xs):Calls prog 59 #[v] w (RetB (Z4 xs) w):=by
 obtain ⟨A,c,rfl,hl,hc⟩:=hr.slv
 have hm:xs.length≤9223372036854775807:=by unfold maxLen at hc;omega
 go_enter func59,ntmps59
 go_wp2
 go_loopw [7] (fun i wr=>∃k:Nat,k≤xs.length∧i= .int .i64 k∧(∀j,j<k→SigOkAt xs j)∧Nw w wr) (fun i _=>xs.length - (intOf i).toNat)
 case atStart=>exact ⟨0,aL _,rfl,fun j h=>absurd h (by omega),Q4 _⟩
 case round=>
  obtain ⟨wo,rfl⟩:∃wo:World,wo=wr:=⟨_,rfl⟩
  obtain ⟨k,hk,rfl,hyes,hq⟩:=hrel
  have HY:=hid hyes
  clear hyes
  by_cases hlt:k<xs.length
  ·obtain ⟨b,o,v0,v1,rfl,hx,c0,c1⟩:=(hr.nw hq).at2 rfl (ak hlt)
   have HX:=hid (ak hlt)
   generalize hxk:xs[k]=x at*
   clear hxk
   obtain ⟨s,n⟩:=x
   obtain ⟨r0,r1⟩:=hx.open2 rfl
   obtain ⟨rfl,hs⟩:=r0.str_
   obtain ⟨rfl,-⟩:=r1.int_
   have Hs:=hid hs
   clear hx r0 r1 hs
   go_wp2_with fail
   refine (Qgo s _ Hs.out).mono ?_
   rintro e w1 ⟨b1,rfl,hb1,hq1⟩
   obtain ⟨hc1,hf1⟩:=hq1.cells
   have hz1:wo.heap.size<w1.heap.size:=by (have hz2:=hq1.size;simp at hz2;omega)
   cases b1 with
   | false=>
    have HB1:=hid (RetB.not hb1)
    clear hb1
    go_wp2
    go_ret
    exact RetB.no (fun h=>HB1.out (h.1 k hlt _ HX.out).1) (by (repeat (first|with_reducible exact Q4 _|with_reducible assumption|with_reducible apply Nw.alloc|with_reducible apply Nw.drew|with_reducible apply Nw.drewN|(with_reducible refine Q8 ?_ ?_;focus (first|(simp;done)|(simp;omega)))|with_reducible refine ZA ‹_› ?_)))
   | true=>
    have HB1:=hid (hb1.1 rfl)
    clear hb1
    go_wp2_with fail
    refine (QbP n _ _ _).mono ?_
    rintro e w2 ⟨b2,rfl,hb2,hq2⟩
    obtain ⟨hc2,hf2⟩:=hq2.cells
    have hz3:wo.heap.size<w2.heap.size:=by (have hz2:=hq2.size;omega)
    cases b2 with
    | false=>
     have HB2:=hid (RetB.not hb2)
     clear hb2
     go_wp2
     go_ret
     exact RetB.no (fun h=>HB2.out (h.1 k hlt _ HX.out).2.1) (by (repeat (first|with_reducible exact Q4 _|with_reducible assumption|with_reducible apply Nw.alloc|with_reducible apply Nw.drew|with_reducible apply Nw.drewN|(with_reducible refine Q8 ?_ ?_;focus (first|(simp;done)|(simp;omega)))|with_reducible refine ZA ‹_› ?_)))
    | true=>
     have HB2:=hid (hb2.1 rfl)
     clear hb2
     have hbx:w2.cell? ⟨wo.heap.size,0,none⟩=some (.string s):=by go_simp
     have hN2:Nw w w2:=by (repeat (first|with_reducible exact Q4 _|with_reducible assumption|with_reducible apply Nw.alloc|with_reducible apply Nw.drew|with_reducible apply Nw.drewN|(with_reducible refine Q8 ?_ ?_;focus (first|(simp;done)|(simp;omega)))|with_reducible refine ZA ‹_› ?_))
     have hk9:k≤c:=by omega
     have HBX:=hid hbx
     clear hc1 hf1 hc2 hf2 c0 c1 hq1 hq2 hbx
     go_wp2_with fail
     refine (K6 (fun y=>y.1=s) (xs.take k) _ _ _ _ ((hr.nw hN2).cut hk c hk9 hc) Qbs ?_).mono ?_
     ·intro i y W u0 u1 hi hqW hy
      exact Qd3 u0 u1 y _ s W hy (by rw[(hqW.cells).1 _ _ hz3];exact HBX.out)
     ·rintro e w3 ⟨b3,rfl,hb3,hq3⟩
      cases b3 with
      | false=>
       have HB3:=hid (RetB.not hb3)
       clear hb3
       go_wp2
       go_roundw
       case rel=>exact ⟨k+1,by omega,by go_num,SigOkAt.step HY.out (fun x hx=>by
        rw[HX.out] at hx
        cases hx
        refine ⟨HB1.out,HB2.out,fun j y hj hy e=>HB3.out ⟨y,?_,e⟩⟩
        exact ah (i:=j) (by rw[bf,if_pos hj];exact hy)),by (repeat (first|with_reducible exact Q4 _|with_reducible assumption|with_reducible apply Nw.alloc|with_reducible apply Nw.drew|with_reducible apply Nw.drewN|(with_reducible refine Q8 ?_ ?_;focus (first|(simp;done)|(simp;omega)))|with_reducible refine ZA ‹_› ?_))⟩
       case measure=>simp[intOf];omega
      | true=>
       have HB3:=hid (hb3.1 rfl)
       clear hb3
       go_wp2
       go_ret
       refine RetB.no (fun h=> ?_) (by (repeat (first|with_reducible exact Q4 _|with_reducible assumption|with_reducible apply Nw.alloc|with_reducible apply Nw.drew|with_reducible apply Nw.drewN|(with_reducible refine Q8 ?_ ?_;focus (first|(simp;done)|(simp;omega)))|with_reducible refine ZA ‹_› ?_)))
       obtain ⟨y,hy,e⟩:=HB3.out
       obtain ⟨j,hj⟩:=aG.1 hy
       rw[bf] at hj
       split at hj
       ·exact (h.1 k hlt _ HX.out).2.2 j y ‹_› hj e
       ·cases hj
  ·have:k=xs.length:=by omega
   subst this
   go_wp2_with (go_at_call 65;refine (QbP _ _ _ _).mono ?_;rintro e w1 ⟨b,rfl,hb,hq1⟩)
   go_ret
   exact RetB.of (hb.trans ⟨fun h=>⟨HY.out,by omega,by omega⟩,fun h=>by have:=h.2;omega⟩) (hq.trans hq1)
def QE3 (n:Int)(l:List BA):Prop:=(∀c∈l,Qqu c∧(c.size:Int)=n)∧(1≤n∧n≤8)∧l.length≤60
def Qhi (w:World)(g:Nat)(c:Array Value)(T:TypeId)(a:Nat×Nat)(i:Nat)(h:w.heap[g]? =some (.cells c T a)):w.cell? ⟨g,i,none⟩=c[i]? :=by
 simp only[World.cell?,h];rfl
def QpE (w:World)(c1:Array Value)(b:TypeId):∃a,a=w.alloc (.cells c1 b)∧Nw w a∧(∀i,a.cell? ⟨w.heap.size,i,none⟩=c1[i]?)∧a.heap.size=w.heap.size+1:=
 ⟨_,rfl,(Q4 _).alloc _,fun i=>Qhi _ _ _ _ _ i (heap_alloc_new w _),by simp⟩
def QFl (n:Int)(l:List QCg):Prop:=∀p∈l,0≤p.1∧p.1≤n - 1
def RisAt (l:List Int)(hi:Int)(k:Nat):Prop:=∀x,l[k]? =some x→(0≤x∧x≤hi)∧∀j y,j+1=k→l[j]? =some y→y<x
def Hh (l:List Int)(hi:Int):Prop:=∀k,k<l.length→RisAt l hi k
def RisAt.step {l:List Int}{hi:Int}{k:Nat}(h:∀j,j<k→RisAt l hi j)(a:RisAt l hi k):∀j,j<k+1→RisAt l hi j:=by
 intro j b
 by_cases e:j=k
 ·subst e;exact a
 ·exact h j (by omega)
def QCr (hi:Int)(t:Q1):Prop:=t.1≠[]∧Hh t.1 hi∧Hh t.2 hi
def Xn (n:XZ):Prop:=(1≤n.1∧n.1≤30)∧n.2.length≤24∧∀t∈n.2,QCr (n.1 - 1) t
def QCl (c:UInt8):Prop:=c.toNat=48∨c.toNat=49
def BitsAt (s:BA)(k:Nat):Prop:=∀h:k<s.size,QCl s[k]
def QbR (s:BA)(n:Int):Prop:=(∀k,k<s.size→BitsAt s k)∧(s.size:Int)=n
theorem Qi8 (v:Value)(l:List Int)(hi:Int)(w:World)(F:Rep Qv w [v] l):
 Calls prog 350 #[v,.int .i64 0,.int .i64 hi] w (RetB (Hh l hi) w):=by
 obtain ⟨A,c,rfl,hl,N⟩:=F.slv
 have hm:l.length≤9223372036854775807:=by unfold maxLen at N;omega
 go_enter func350,ntmps350
 go_wp2
 go_loopw [11] (fun i T=>∃k:Nat,k≤l.length∧i= .int .i64 k∧(∀j,j<k→RisAt l hi j)∧Nw w T) (fun i _=>l.length - (intOf i).toNat)
 case atStart=>exact ⟨0,aL _,rfl,fun j h=>absurd h (by omega),Q4 _⟩
 case round=>
  obtain ⟨k,Z,rfl,q,r⟩:=hrel
  have D:=hid q
  clear q
  by_cases g:k<l.length
  ·obtain ⟨b,o,v0,rfl,K,V⟩:=(F.nw r).at1 rfl (ak g)
   have C:=hid (ak g)
   generalize G:l[k]=x at*
   clear G
   obtain ⟨rfl,-⟩:=K.int_
   clear K
   go_wp2_with fail
   refine (KL _ _ _ _).mono ?_
   rintro e w1 ⟨M,rfl,f,a⟩
   obtain ⟨O,Q⟩:=a.cells
   cases M with
   | false=>
    have u:=hid (RetB.not f)
    clear f
    go_wp2
    go_ret
    exact RetB.no (fun h=>u.out ((h k g _ C.out).1)) (r.trans a)
   | true=>
    have u:=hid (f.1 rfl)
    clear f
    by_cases E:k=0
    ·subst E
     go_wp2
     go_roundw
     case rel=>exact ⟨1,by omega,by go_num,RisAt.step D.out (fun y p=>by
      rw[C.out] at p
      cases p
      exact ⟨u.out,fun j y J=>absurd J (by omega)⟩),r.trans a⟩
     case measure=>simp[intOf];omega
    ·obtain ⟨m,n⟩:∃m,k=m+1:=⟨k - 1,by omega⟩
     have R:(k:Int) - 1=m:=by omega
     have S:(0:Int)<k:=by omega
     have t:m<l.length:=by omega
     obtain ⟨U,o',y0,I,p,W⟩:=((F.nw r).nw a).at1 rfl (ak t)
     simp only[br,Addr.mk.injEq,and_true] at I
     obtain ⟨rfl,rfl⟩:=I
     have s:=hid (ak t)
     generalize H:l[m]=y at*
     clear H
     obtain ⟨rfl,-⟩:=p.int_
     clear p
     by_cases d:x≤y
     ·have P:=ay d
      have B:=hid (And.intro n d)
      clear n d
      go_wp2
      go_ret
      exact RetB.no (fun h=>by have:=(h k g _ C.out).2 m _ (B.out.1).symm s.out;have:=B.out.2;omega) (r.trans a)
     ·have P:=aj d
      have B:=hid (And.intro n d)
      clear n d
      go_wp2
      go_roundw
      case rel=>exact ⟨k+1,by omega,by go_num,RisAt.step D.out (fun z L=>by
       rw[C.out] at L
       cases L
       exact ⟨u.out,fun j y J p=>by
        obtain ⟨X,Y⟩:=B.out
        have:j=m:=by omega
        subst this
        rw[s.out] at p
        cases p
        omega⟩),r.trans a⟩
      case measure=>simp[intOf];omega
  ·have:k=l.length:=by omega
   subst this
   go_wp2
   go_ret
   exact RetB.yes (D.out) r
def Qgs (v:Value)(l:List Int)(hi:Int)(w:World)(a:Rep Qv w [v] l):
 Calls prog 339 #[v,.int .i64 hi] w (RetB (Hh l hi) w):=by
 obtain ⟨A,c,rfl,h,g⟩:=a.slv
 go_enter func339,ntmps339
 go_wp2_with fail
 refine (Qi8 _ l _ _ a).mono ?_
 rintro e i ⟨b,rfl,d,f⟩
 go_wp2
 go_ret
 exact RetB.of d f
def TrAt (hi:Int)(ts:List Q1)(k:Nat):Prop:=∀t,ts[k]? =some t→QCr hi t
def TrAt.step {hi:Int}{ts:List Q1}{k:Nat}(h:∀j,j<k→TrAt hi ts j)(a:TrAt hi ts k):∀j,j<k+1→TrAt hi ts j:=by
 intro j b
 by_cases e:j=k
 ·subst e;exact a
 ·exact h j (by omega)
theorem Qx4 {p hi:Int}{ts:List Q1}(d:IntKind.i64.wrap (p - 1)=hi)(h:∀j,j<ts.length→TrAt hi ts j)(b:1≤p∧p≤30)(c:ts.length≤24):Xn (p,ts):=by
 have:hi=p - 1:=by rw[← d];exact IntWalk.i64_in _ (by omega)
 refine ⟨b,c,fun t e=> ?_⟩
 obtain ⟨j,a⟩:=aG.1 e
 have:=h j (ae.1 a).1 t a
 simp_all
def Qx3 {p hi:Int}{ts:List Q1}(a:IntKind.i64.wrap (p - 1)=hi)(h:Xn (p,ts)){k:Nat}:TrAt hi ts k:=by
 have c:=h.1
 have:hi=p - 1:=by rw[← a];exact IntWalk.i64_in _ (by omega)
 subst this
 exact fun t b=>h.2.2 t (ah b)
theorem Qgr (a0 a1:Value)(n:XZ)(w:World)(hn:Rep QdC w [a0,a1] n):
 Calls prog 298 #[.agg #[a0,a1]] w (RetB (Xn n) w):=by
 obtain ⟨p,ts⟩:=n
 obtain ⟨rP,rT⟩:=hn.open2 rfl
 dsimp only at rP rT
 obtain ⟨rfl,hp1,hp2⟩:=rP.int_
 obtain ⟨A,c,rfl,hl,hc⟩:=rT.slv
 have hm:ts.length≤9223372036854775807:=by unfold maxLen at hc;omega
 obtain ⟨hi,hhi⟩:∃hi,IntKind.i64.wrap (p - 1)=hi:=⟨_,rfl⟩
 have HNO:=hid (fun (h:Xn (p,ts)) (k:Nat)=>Qx3 hhi h (k:=k))
 have HYES:=hid (fun h1 h2 h3=>Qx4 (ts:=ts) hhi h1 h2 h3)
 generalize hPP:Xn (p,ts)=PP at*
 have HPP:=hid hPP
 clear hPP rP
 go_enter func298,ntmps298
 go_wp2
 go_loopw [8] (fun i wr=>∃k:Nat,k≤ts.length∧i= .int .i64 k∧(∀j,j<k→TrAt hi ts j)∧Nw w wr∧wr.cell? ⟨w.heap.size,0,none⟩=some (.int .i64 p)∧wr.cell? ⟨w.heap.size,1,none⟩=some (.slice A ts.length c)∧w.heap.size<wr.heap.size) (fun i _=>ts.length - (intOf i).toNat)
 case atStart=>exact ⟨0,aL _,rfl,fun j h=>absurd h (by omega),by (repeat (first|with_reducible exact Q4 _|with_reducible assumption|with_reducible apply Nw.alloc|with_reducible apply Nw.drew|with_reducible apply Nw.drewN|(with_reducible refine Q8 ?_ ?_;focus (first|(simp;done)|(simp;omega)))|with_reducible refine ZA ‹_› ?_)),by go_simp,by go_simp,by simp⟩
 case round=>
  obtain ⟨wo,rfl⟩:∃wo:World,wo=wr:=⟨_,rfl⟩
  obtain ⟨k,hk,rfl,hyes,hq,d0,d1,hs⟩:=hrel
  have HY:=hid hyes
  clear hyes
  by_cases hlt:k<ts.length
  ·obtain ⟨b,o,v0,v1,rfl,hx,c0,c1⟩:=(rT.nw hq).at2 rfl (ak hlt)
   have HX:=hid (ak hlt)
   generalize hxk:ts[k]=x at*
   clear hxk
   obtain ⟨pre,post⟩:=x
   obtain ⟨r0,r1⟩:=hx.open2 rfl
   dsimp only at r0 r1
   obtain ⟨A0,cc0,rfl,-,-⟩:=r0.slv
   obtain ⟨A1,cc1,rfl,-,-⟩:=r1.slv
   rcases pre with _|⟨q,pre⟩
   ·go_wp2
    go_ret
    exact RetB.no (fun h=>(HNO.out h k _ HX.out).1 rfl) (by (repeat (first|with_reducible exact Q4 _|with_reducible assumption|with_reducible apply Nw.alloc|with_reducible apply Nw.drew|with_reducible apply Nw.drewN|(with_reducible refine Q8 ?_ ?_;focus (first|(simp;done)|(simp;omega)))|with_reducible refine ZA ‹_› ?_)))
   ·have hne:((((q::pre).length:Nat):Int)==0)=false:=Qad (by simp only[av];omega)
    generalize hqp:q::pre=pr at*
    go_wp2_with fail
    obtain ⟨W1,hW1⟩:∃W1,W1=wo.alloc (.cells #[.slice A0 pr.length cc0,.slice A1 post.length cc1] 290):=⟨_,rfl⟩
    have e0:W1.cell? ⟨wo.heap.size,1,none⟩=some (.slice A1 post.length cc1):=by rw[hW1];go_simp
    have e1:W1.cell? ⟨w.heap.size,0,none⟩=some (.int .i64 p):=by rw[hW1];go_simp
    have e2:W1.cell? ⟨w.heap.size,1,none⟩=some (.slice (some ⟨b,o,none⟩) ts.length c):=by rw[hW1];go_simp
    have hN1:Nw wo W1:=by rw[hW1];exact (Q4 _).alloc _
    have hs1:wo.heap.size<W1.heap.size:=by rw[hW1];simp
    have hs2:w.heap.size<W1.heap.size:=by omega
    rw[← hW1]
    clear hW1 c0 c1 d0 d1
    refine (Qgs _ pr _ _ (r0.nw hN1)).mono ?_
    rintro e w1 ⟨b1,rfl,hb1,hq1⟩
    obtain ⟨hc1,hf1⟩:=hq1.cells
    cases b1 with
    | false=>
     have HB:=hid (RetB.not hb1)
     clear hb1
     go_wp2
     go_ret
     exact RetB.no (fun h=>HB.out (HNO.out h k _ HX.out).2.1) ((hq.trans hN1).trans hq1)
    | true=>
     have HB:=hid (hb1.1 rfl)
     clear hb1
     go_wp2_with fail
     refine (Qgs _ post _ _ ((r1.nw hN1).nw hq1)).mono ?_
     rintro e w2 ⟨b2,rfl,hb2,hq2⟩
     have hN2:=hq1.trans hq2
     clear hc1 hf1
     obtain ⟨hc1,hf1⟩:=hN2.cells
     cases b2 with
     | false=>
      have HB2:=hid (RetB.not hb2)
      clear hb2
      go_wp2
      go_ret
      exact RetB.no (fun h=>HB2.out (HNO.out h k _ HX.out).2.2) ((hq.trans hN1).trans hN2)
     | true=>
      have HB2:=hid (hb2.1 rfl)
      clear hb2
      have hs3:w.heap.size<w2.heap.size:=by have:=hN2.size;omega
      have HQP:=hid hqp
      clear hqp
      go_wp2
      go_roundw
      case rel=>exact ⟨k+1,by omega,by go_num,TrAt.step HY.out (fun y hy=>by
       rw[HX.out] at hy
       cases hy
       exact ⟨by rw[← HQP.out];simp,HB.out,HB2.out⟩),(hq.trans hN1).trans hN2,by rw[hc1 _ _ hs2];exact e1,by rw[hc1 _ _ hs2];exact e2,hs3⟩
      case measure=>simp[intOf];omega
  ·have:k=ts.length:=by omega
   subst this
   go_wp2_with fail
   refine (KL _ _ _ _).mono ?_
   rintro e w1 ⟨b1,rfl,hb1,hq1⟩
   obtain ⟨hc1,hf1⟩:=hq1.cells
   cases b1 with
   | false=>
    have HB:=hid (RetB.not hb1)
    clear hb1
    go_wp2
    go_ret
    exact RetB.no (fun h=>by rw[← HPP.out] at h;exact HB.out h.1) (hq.trans hq1)
   | true=>
    have HB:=hid (hb1.1 rfl)
    clear hb1
    by_cases h24:ts.length≤24
    ·have hd:decide ((ts.length:Int)≤24)=true:=ay (by omega)
     have H24:=hid h24
     clear h24
     go_wp2
     go_ret
     exact RetB.yes (by rw[← HPP.out];exact HPP.out▸(HPP.out▸HYES.out HY.out HB.out H24.out)) (hq.trans hq1)
    ·have hd:decide ((ts.length:Int)≤24)=false:=aj (by omega)
     have H24:=hid h24
     clear h24
     go_wp2
     go_ret
     exact RetB.no (fun h=>by rw[← HPP.out] at h;exact H24.out h.2.1) (hq.trans hq1)
def BitsAt.step {s:BA}{k:Nat}(h:∀j,j<k→BitsAt s j)(a:BitsAt s k):∀j,j<k+1→BitsAt s j:=by
 intro j b
 by_cases e:j=k
 ·subst e;exact a
 ·exact h j (by omega)
def QnM (r t:Value)(n:XZ)(s:BA)(w:World)(u:Rep QdC w [r,t] n)(D:s.size≤maxLen):
 Calls prog 299 #[.agg #[r,t],.string s] w (RetB (QbR s n.1) w):=by
 have I:s.size≤9223372036854775807:=D
 obtain ⟨p,J⟩:=n
 obtain ⟨o,q⟩:=u.open2 rfl
 dsimp only at o q ⊢
 obtain ⟨rfl,B,C⟩:=o.int_
 obtain ⟨A,c,rfl,G,E⟩:=q.slv
 clear o q u
 go_enter func299,ntmps299
 go_wp2
 go_loop [5] (fun i=>∃k:Nat,k≤s.size∧i= .int .i64 k∧∀j,j<k→BitsAt s j) (fun i=>s.size - (intOf i).toNat)
 case atStart=>exact ⟨0,aL _,rfl,fun j h=>absurd h (by omega)⟩
 case round=>
  obtain ⟨k,F,rfl,d⟩:=hrel
  have m:=hid d
  clear d
  by_cases l:k<s.size
  ·rcases (by omega:s[k].toNat=48∨s[k].toNat=49∨(s[k].toNat≠48∧s[k].toNat≠49)) with h|h|⟨h,x⟩
   ·have f:=QhG (a:=(s[k].toNat:Int)) (b:=48) (by omega)
    have H:=hid (show BitsAt s k from fun _=> .inl h)
    clear h
    go_wp2
    go_round
    case rel=>exact ⟨k+1,by omega,by go_num,BitsAt.step m.out H.out⟩
    case measure=>simp[intOf];omega
   ·have f:=Qfr (a:=(s[k].toNat:Int)) (b:=48) (by omega)
    have v:=QhG (a:=(s[k].toNat:Int)) (b:=49) (by omega)
    have H:=hid (show BitsAt s k from fun _=> .inr h)
    clear h
    go_wp2
    go_round
    case rel=>exact ⟨k+1,by omega,by go_num,BitsAt.step m.out H.out⟩
    case measure=>simp[intOf];omega
   ·have f:=Qfr (a:=(s[k].toNat:Int)) (b:=48) (by omega)
    have v:=Qfr (a:=(s[k].toNat:Int)) (b:=49) (by omega)
    have H:=hid (show¬QbR s p from fun y=>by rcases y.1 k l l with e|e <;> contradiction)
    clear h x
    go_wp2
    go_ret
    exact RetB.no H.out (by (repeat (first|with_reducible exact Q4 _|with_reducible assumption|with_reducible apply Nw.alloc|with_reducible apply Nw.drew|with_reducible apply Nw.drewN|(with_reducible refine Q8 ?_ ?_;focus (first|(simp;done)|(simp;omega)))|with_reducible refine ZA ‹_› ?_)))
  ·have:k=s.size:=by omega
   subst this
   by_cases g:(s.size:Int)=p
   ·have f:=Qfp g
    have H:=hid (show QbR s p from ⟨fun j z=>m.out j z,g⟩)
    clear g
    go_wp2
    go_ret
    exact RetB.of (by simp only[f,H.out]) (by (repeat (first|with_reducible exact Q4 _|with_reducible assumption|with_reducible apply Nw.alloc|with_reducible apply Nw.drew|with_reducible apply Nw.drewN|(with_reducible refine Q8 ?_ ?_;focus (first|(simp;done)|(simp;omega)))|with_reducible refine ZA ‹_› ?_)))
   ·have f:=Qad g
    have H:=hid (show¬QbR s p from fun h=>g h.2)
    clear g
    go_wp2
    go_ret
    exact RetB.of (by simp only[f,cc,false_iff];exact H.out) (by (repeat (first|with_reducible exact Q4 _|with_reducible assumption|with_reducible apply Nw.alloc|with_reducible apply Nw.drew|with_reducible apply Nw.drewN|(with_reducible refine Q8 ?_ ?_;focus (first|(simp;done)|(simp;omega)))|with_reducible refine ZA ‹_› ?_)))
def Rep.pr_flat {a b c d e:Ty}{w:World}{g i j k l:Value}{x:((a.Den×b.Den)×c.Den×d.Den×e.Den)}(h:Rep (.pr (.pr a b) (.pr c (.pr d e))) w [g,i,j,k,l] x)(f:a.wd=1)(hb:b.wd=1)(t:c.wd=1)(u:d.wd=1):
 Rep a w [g] x.1.1∧Rep b w [i] x.1.2∧Rep c w [j] x.2.1∧Rep d w [k] x.2.2.1∧Rep e w [l] x.2.2.2:=by
 obtain ⟨m,n⟩:=h.pr2 (show (Ty.pr a b).wd=2 by simp[Ty.wd,f,hb])
 obtain ⟨o,p⟩:=m.open2 f
 obtain ⟨q,r,s⟩:=n.open3 t u
 exact ⟨o,p,q,r,s⟩
def Rep.pr_net {a b c d e:Ty}{w:World}{f g j k l:Value}{x:((a.Den×b.Den)×c.Den×d.Den×e.Den)}(h:Rep (.pr (.pr a b) (.pr c (.pr d e))) w [f,g,j,k,l] x)(i:a.wd=1)(hb:b.wd=1):Rep (.pr a b) w [f,g] x.1:=
 (h.pr2 (show (Ty.pr a b).wd=2 by simp[Ty.wd,i,hb])).1
def QhC (m:Nat)(l:Z3):Prop:=(0≤l.1∧l.1≤(m:Int) - 1)∨(l.1= -1∧l.2=false)
structure StgOk (s:ZF):Prop where
  net:Xn s.1
  sigs:Z4 s.2.1
  len:s.2.2.1.length=s.1.2.length
  labs:∀l∈s.2.2.1,QhC s.2.1.length l
  bits:QbR s.2.2.2 s.1.1
def QkW (s:Int)(j:Bool)(m:Nat)(w:World)(z:m≤9223372036854775807):
 Calls prog 201 #[.agg #[.int .i64 s,.bool j],.int .i64 m] w (RetB (QhC m (s,j)) w):=by
 go_enter func201,ntmps201
 obtain ⟨n,d,b,f,l⟩:=QpE w #[.int .i64 s,.bool j] 183
 have o:=f 0
 have p:=f 1
 simp only[List.getElem?_toArray,bQ,cB] at o p
 have v:w.heap.size<n.heap.size:=by omega
 clear f l
 have y:IntKind.i64.wrap ((m:Int) - 1)=(m:Int) - 1:=IntWalk.i64_in _ (by omega)
 go_wp2_with fail
 rw[← d]
 have x:=hid d
 clear d
 refine (KL _ _ _ _).mono ?_
 rintro e A ⟨q,rfl,c,a⟩
 obtain ⟨t,u⟩:=a.cells
 cases q with
 | true=>
  have i:=hid (c.1 rfl)
  clear c
  go_wp2
  go_ret
  exact RetB.yes (.inl i.out) (b.trans a)
 | false=>
  have i:=hid (RetB.not c)
  clear c
  by_cases g:s= -1
  ·have r:=Qfp g
   have k:=hid g
   clear g
   cases j with
   | true=>
    go_wp2
    go_ret
    exact RetB.no (fun h=>by rcases h with h|⟨_,h⟩;exact i.out h;cases h) (b.trans a)
   | false=>
    go_wp2
    go_ret
    exact RetB.yes (.inr ⟨k.out,rfl⟩) (b.trans a)
  ·have r:=Qad g
   have k:=hid g
   clear g
   go_wp2
   go_ret
   exact RetB.no (fun h=>by rcases h with h|⟨h,_⟩;exact i.out h;exact k.out h) (b.trans a)
def LabAt (m:Nat)(ls:List Z3)(k:Nat):Prop:=∀x,ls[k]? =some x→QhC m x
def LabAt.step {m:Nat}{ls:List Z3}{k:Nat}(h:∀j,j<k→LabAt m ls j)(a:LabAt m ls k):∀j,j<k+1→LabAt m ls j:=by
 intro j b
 by_cases e:j=k
 ·subst e;exact a
 ·exact h j (by omega)
def QrE {m:Nat}{ls:List Z3}(h:∀j,j<ls.length→LabAt m ls j):∀l∈ls,QhC m l:=by
 intro l b
 obtain ⟨j,a⟩:=aG.1 b
 exact h j (ae.1 a).1 l a
theorem QnN (L M N O P:Value)(s:ZF)(w:World)(hn:Rep Qeq w [L,M,N,O,P] s):
 Calls prog 254 #[.agg #[L,M,N,O,P]] w (RetB (StgOk s) w):=by
 have rN:=hn.pr_net rfl rfl
 obtain ⟨⟨p,m⟩,E,f,K⟩:=s
 obtain ⟨rP,rT,rS,rL,rM⟩:=hn.pr_flat rfl rfl rfl rfl
 dsimp only at rP rT rS rL rM rN
 obtain ⟨rfl,-,-⟩:=rP.int_
 obtain ⟨AT,cT,rfl,b5,X⟩:=rT.slv
 obtain ⟨AS,cS,rfl,b4,W⟩:=rS.slv
 obtain ⟨AL,cL,rfl,b0,V⟩:=rL.slv
 obtain ⟨rfl,a7⟩:=rM.str_
 have b7:m.length≤9223372036854775807:=by unfold maxLen at X;omega
 have Z:E.length≤9223372036854775807:=by unfold maxLen at W;omega
 have b6:f.length≤9223372036854775807:=by unfold maxLen at V;omega
 have R:=hid (fun (h:StgOk ((p,m),E,f,K))=>h)
 have F:=hid (fun h1 h2 h3 h4 h5=>(StgOk.mk h1 h2 h3 h4 h5:StgOk ((p,m),E,f,K)))
 generalize G:StgOk ((p,m),E,f,K)=PP at*
 have c:=hid G
 clear G R rP rM
 obtain ⟨S,A,d,g,a8⟩:=QpE w #[.int .i64 p,.slice AT m.length cT,.slice AS E.length cS,.slice AL f.length cL,.string K] 164
 have L:=g 0
 have M:=g 1
 have N:=g 2
 have O:=g 3
 have P:=g 4
 simp only[List.getElem?_toArray,bQ,cB] at L M N O P
 have b8:w.heap.size<S.heap.size:=by omega
 clear g a8
 go_enter func254,ntmps254
 go_wp2
 rw[← A]
 have HW:=hid A
 clear A
 go_loopw [8] (fun i wr=>∃k:Nat,k≤f.length∧i= .int .i64 k∧(∀j,j<k→LabAt E.length f j)∧Nw S wr) (fun i _=>f.length - (intOf i).toNat)
 case atStart=>exact ⟨0,aL _,rfl,fun j h=>absurd h (by omega),Q4 _⟩
 case round=>
  obtain ⟨wo,rfl⟩:∃wo:World,wo=wr:=⟨_,rfl⟩
  obtain ⟨k,hk,rfl,t,J⟩:=hrel
  have HY:=hid t
  clear t
  obtain ⟨U,Y⟩:=J.cells
  have b9:w.heap.size<wo.heap.size:=by have:=J.size;omega
  by_cases I:k<f.length
  ·obtain ⟨b,o,v0,v1,rfl,hx,c0,c1⟩:=((rL.nw d).nw J).at2 rfl (ak I)
   have HX:=hid (ak I)
   generalize a9:f[k]=x at*
   clear a9
   obtain ⟨sg,up⟩:=x
   obtain ⟨r0,r1⟩:=hx.open2 rfl
   dsimp only at r0 r1
   obtain ⟨rfl,-,-⟩:=r0.int_
   obtain rfl:=r1.bool_
   clear hx r0 r1
   go_wp2_with fail
   refine (QkW _ _ _ _ Z).mono ?_
   rintro e w1 ⟨T,rfl,a,D⟩
   obtain ⟨B,C⟩:=D.cells
   cases T with
   | false=>
    have u:=hid (RetB.not a)
    clear a
    go_wp2
    go_ret
    exact RetB.no (fun h=>by rw[← c.out] at h;exact u.out (h.labs _ (ah HX.out))) (by (repeat (first|with_reducible exact Q4 _|with_reducible assumption|with_reducible apply Nw.alloc|with_reducible apply Nw.drew|with_reducible apply Nw.drewN|(with_reducible refine Q8 ?_ ?_;focus (first|(simp;done)|(simp;omega)))|with_reducible refine ZA ‹_› ?_)))
   | true=>
    have u:=hid (a.1 rfl)
    clear a
    go_wp2
    go_roundw
    case rel=>exact ⟨k+1,by omega,by go_num,LabAt.step HY.out (fun y hy=>by
     rw[HX.out] at hy
     cases hy
     exact u.out),by (repeat (first|with_reducible exact Q4 _|with_reducible assumption|with_reducible apply Nw.alloc|with_reducible apply Nw.drew|with_reducible apply Nw.drewN|(with_reducible refine Q8 ?_ ?_;focus (first|(simp;done)|(simp;omega)))|with_reducible refine ZA ‹_› ?_))⟩
    case measure=>simp[intOf];omega
  ·have:k=f.length:=by omega
   subst this
   go_wp2_with fail
   refine (Qgr _ _ (p,m) _ ((rN.nw d).nw J)).mono ?_
   rintro e w1 ⟨T,rfl,a,D⟩
   have n:Nw S w1:=J.trans D
   clear U Y
   obtain ⟨B,C⟩:=n.cells
   cases T with
   | false=>
    have u:=hid (RetB.not a)
    clear a
    go_wp2
    go_ret
    exact RetB.no (fun h=>by rw[← c.out] at h;exact u.out h.net) (d.trans n)
   | true=>
    have u:=hid (a.1 rfl)
    clear a
    go_wp2_with fail
    refine (QaT _ E _ (rS.nw (d.trans n))).mono ?_
    rintro e w2 ⟨b2,rfl,q,a5⟩
    have l:=n.trans a5
    clear B C
    obtain ⟨B,C⟩:=l.cells
    cases b2 with
    | false=>
     have v:=hid (RetB.not q)
     clear q
     go_wp2
     go_ret
     exact RetB.no (fun h=>by rw[← c.out] at h;exact v.out h.sigs) (d.trans l)
    | true=>
     have v:=hid (q.1 rfl)
     clear q
     by_cases r:f.length=m.length
     ·have e1:((f.length:Int)==(m.length:Int))=true:=Qfp (by omega)
      have z:=hid r
      clear r
      go_wp2_with fail
      refine (QnM _ _ (p,m) K _ (rN.nw (d.trans l)) a7).mono ?_
      rintro e w3 ⟨b3,rfl,H,a6⟩
      have Q:=hid H
      clear H
      go_wp2
      go_ret
      exact RetB.of (Q.out.trans ⟨fun h=>by rw[← c.out];exact c.out▸(c.out▸F.out u.out v.out z.out (QrE HY.out) h),fun h=>by rw[← c.out] at h;exact h.bits⟩) ((d.trans l).trans a6)
     ·have e1:((f.length:Int)==(m.length:Int))=false:=Qad (by omega)
      have z:=hid r
      clear r
      go_wp2
      go_ret
      exact RetB.no (fun h=>by rw[← c.out] at h;exact z.out h.len) (d.trans l)
def JM (ops:Array Oper)(n:Nat):Bool:=
 (List.range n).all fun i => match ops[i]? with
  | some o=>(o.after.all fun e=> !Region.binds .any e||decide (e.on<i))&&(match o.guard with|some (g,_)=>decide (g<n)|none=>true)
  | none=>false
def QG9 (l:List Oper)(n:Nat):Bool:=
 decide (n<l.length)&&JM l.toArray n&&(List.range n).all (fun i=>Region.waitsFor .any l.toArray n i)&&Region.chainB .any l.toArray n&&
  Region.seqB .any l.toArray (l.length - n) n (Array.replicate n true++Array.replicate (l.length - n) false)
def QGY (P:Program)(l:List Oper)(n:Nat)(Q:Exit→Act→World→Prop):Exit→Act→World→Prop
 | .normal,a,w=>wpList P l.toArray Q (l.drop n) a w
 | e,a,w=>Q e a w
section
variable {P:Program}{Q:Exit→Act→World→Prop}{a:Act}{w:World}
def QkP {n g:Nat}{c:Array Bool}(d:c.size=n)(b:Bool){i:Nat}(hi:i<n):(c++Array.replicate g false).getD i b=c.getD i b:=by
 simp[hi,d,Array.getElem_append_left,show i<n+g by omega]
def QlU {ops:Array Oper}{n:Nat}{b:Array Bool}(m:JM ops n=true)(j:b.size=n)(r:∀i,i<n→i∉Region.ready .any ops (b++Array.replicate (ops.size - n) false))(t:n≤ops.size):∀i,i<n→b.getD i true=true:=by
 intro i
 induction i using Nat.strongRecOn with
 | _ i s=>
  intro d
  cases h:b.getD i true with
  | true=>rfl
  | false=>
   refine absurd (mem_ready.2 ⟨by rw[QkP j _ d];exact h,?_⟩) (r i d)
   have c:=ao.1 m i (bC.2 d)
   cases g:ops[i]? with
   | none=>rw[g] at c;cases c
   | some o=>
    rw[g] at c
    simp only[aH,Array.all_eq_true_iff_forall_mem,ci,cA,aY] at c
    refine ⟨o,rfl,fun e q p=> ?_⟩
    have f:=c.1 e q
    rw[p] at f
    have k:e.on<i:=by simpa using f
    rw[QkP j _ (by omega)]
    have:=s e.on k (by omega)
    have l:e.on<b.size:=by omega
    simpa [l] using this
end
structure Mw (B M:Nat) (w w':World):Prop where
  os:w'.os=w.os
  tape:w'.tape=w.tape
  output:w'.output=w.output
  size:w.heap.size≤w'.heap.size
  block:∀k,k<w.heap.size→(k<B∨M≤k)→w'.heap[k]? =w.heap[k]?
def Mw.nw {a w w':World}{B M:Nat}(h:Mw B M w w')(b:Nw a w)(d:a.heap.size≤B):Nw a w':=
 ⟨h.os.trans b.os,h.tape.trans b.tape,h.output.trans b.output,bi b.size h.size,fun k c=>(h.block k (ba c b.size) (.inl (ba c d))).trans (Below.block b k c)⟩
def Mw.trans {a b c:World}{B M:Nat}(h:Mw B M a b)(k:Mw B M b c):Mw B M a c:=
 ⟨k.os.trans h.os,k.tape.trans h.tape,k.output.trans h.output,bi h.size k.size,fun g d f=>(k.block g (ba d h.size) f).trans (h.block g d f)⟩
def Mw.mono {B M a b:Nat}{w w':World}(h:Mw B M w w')(d:a≤B)(f:M≤b):Mw a b w w':=
 ⟨h.os,h.tape,h.output,h.size,fun k c g=>h.block k c (by omega)⟩
def Mw.cells {B M:Nat}{w w':World}(h:Mw B M w w'):(∀b o,b<w.heap.size→(b<B∨M≤b)→w'.cell? ⟨b,o,none⟩=w.cell? ⟨b,o,none⟩)∧
 (∀b o,b<w.heap.size→(b<B∨M≤b)→w'.frozen? ⟨b,o,none⟩=w.frozen? ⟨b,o,none⟩):=
 ⟨fun b o a c=>dl (h.block b a c),fun b o a c=>World.frozen?_of_block (h.block b a c)⟩
structure ElemInfo (P:Program) (E:TypeId) (e:Ty):Prop where
  ex:∃i z,P.info? E=some i∧i.zero=some z∧i.size=e.wd∧i.bytes≤65536∧z.cells.size=e.wd
def Xv (P:Program)(E:TypeId)(n:Nat):Bool:=match P.info? E with
 | some i=>match i.zero with
  | some z=>i.size==n&&decide (i.bytes≤65536)&&z.cells.size==n
  | none=>false
 | none=>false
def QeH {P:Program}{E:TypeId}{e:Ty}(h:Xv P E e.wd=true):ElemInfo P E e:=by
 unfold Xv at h
 cases a:P.info? E with
 | none=>rw[a] at h;cases h
 | some i=>
  rw[a] at h
  simp only at h
  cases b:i.zero with
  | none=>rw[b] at h;cases h
  | some z=>
   rw[b] at h
   simp only[aH,beq_iff_eq,aY] at h
   exact ⟨i,z,a,b,h.1.1,h.1.2,h.2⟩
section
variable {E:TypeId}{e:Ty}{w:World}
def Own.row {fp:List Nat}{v:Value}{xs:List e.Den}(h:Own (.sl E e) w fp [v] xs):∃cs fps,w.ownsRow 0 E e.wd v xs.length cs∧OwnL (Own e w) fps cs xs∧((v.ownBlock=none∧fp=[]∧fps=[])∨∃g,v.ownBlock=some g∧fp=g::fps):=by
 rcases h with ⟨rfl,h,f⟩|⟨g,a,b,fps,rfl,c,i,j,k,l,d⟩
 ·subst f
  simp only[aN,and_true] at h
  subst h
  exact ⟨[],[],World.ownsRow_nil _ _ _ _,⟨rfl,rfl⟩,.inl ⟨rfl,rfl,rfl⟩⟩
 ·simp only[aN,and_true] at c
  subst c
  refine ⟨_,fps,⟨?_,.inr ⟨g,a,b,rfl,aL _,i,j,k,l,rfl⟩⟩,d,.inr ⟨g,rfl,rfl⟩⟩
  exact d.len
def QlM {fps:List Nat}{v:Value}{cs:List Value}{xs:List e.Den}{n:Nat}(m:n=xs.length)(h:w.ownsRow 0 E e.wd v n cs)(c:OwnL (Own e w) fps cs xs):
 ∃fp,Own (.sl E e) w fp [v] xs∧((v.ownBlock=none∧fp=fps)∨∃g,v.ownBlock=some g∧fp=g::fps):=by
 subst m
 rcases h.2 with ⟨rfl,d⟩|⟨g,a,b,rfl,_,f,i,j,k,l⟩
 ·obtain rfl:=bF d
  obtain ⟨rfl,_⟩:=c
  exact ⟨[],.inl ⟨rfl,rfl,rfl⟩,.inl ⟨rfl,rfl⟩⟩
 ·exact ⟨g::fps,.inr ⟨g,a,b,fps,rfl,rfl,f,i,j,k,by rw[l];exact c⟩,.inr ⟨g,rfl,rfl⟩⟩
def OwnL.one {fp:List Nat}:∀{xs:List e.Den} {fp:List Nat} {cs:List Value},OwnL (Own e w) fp cs xs→∀u∈cs,u.oneCell'=true
 | [],_,_,h=>by rw[h.2];simp
 | _::_,_,_,⟨_,_,_,_,_,h2,h3,h4⟩=>by
  intro u a
  rw[h2] at a
  rcases aO.1 a with a|a
  ·exact Rep.one h3.rep u a
  ·exact OwnL.one (fp:=[]) h4 u a
def OwnL.lt {xs:List e.Den}{fp:List Nat}{cs:List Value}(h:OwnL (Own e w) fp cs xs):∀g∈fp,g<w.heap.size:=by
 induction xs generalizing fp cs with
 | nil=>rw[h.1];simp
 | cons x xs d=>
  obtain ⟨f,i,c1,c2,rfl,rfl,b,c⟩:=h
  intro g a
  rcases aO.1 a with a|a
  ·exact Own.lt b g a
  ·exact d c g a
variable {P:Program}
def Ty.flat:Ty→Bool
 | .pr a b=>a.flat&&b.flat
 | .sl _ _=>false
 | _=>true
def Rep.own:∀{t:Ty} {w:World} {cs:List Value} {x:t.Den},Rep t w cs x→t.flat=true→Own t w [] cs x
 | .int,_,_,_,h,_=>⟨rfl,h⟩
 | .bool,_,_,_,h,_=>⟨rfl,h⟩
 | .str,_,_,_,h,_=>⟨rfl,h⟩
 | .u8,_,_,_,h,_=>⟨rfl,h⟩
 | .vl,_,_,_,h,_=>⟨rfl,h⟩
 | .sl _ _,_,_,_,_,h=>by cases h
 | .pr a b,_,_,_,⟨l,r,h,h1,h2⟩,hf=>by
  simp only[Ty.flat,aH] at hf
  exact ⟨[],[],l,r,rfl,h,Rep.own h1 hf.1,Rep.own h2 hf.2⟩
def Qgj (k:e.flat=true)(b:Nat):∀(ys:List e.Den) (o:Nat),(∀i x,ys[i]? =some x→∃c,Rep e w c x∧∀j u,c[j]? =some u→w.cell? ⟨b,o+i*e.wd+j,none⟩=some u)→
 ∃a,OwnL (Own e w) [] a ys∧∀j u,a[j]? =some u→w.cell? ⟨b,o+j,none⟩=some u
 | [],_,_=>⟨[],⟨rfl,rfl⟩,by simp⟩
 | y::ys,o,h=>by
  obtain ⟨c,g,l⟩:=h 0 y rfl
  obtain ⟨a,m,n⟩:=Qgj k b ys (o+e.wd) (fun i x s=>by
   obtain ⟨f,p,q⟩:=h (i+1) x s
   refine ⟨f,p,fun j u d=> ?_⟩
   rw[← q j u d]
   congr 2
   rw[cw]
   omega)
  refine ⟨c++a,⟨[],[],c,a,rfl,rfl,g.own k,m⟩,fun j u d=> ?_⟩
  by_cases r:j<c.length
  ·rw[bm r] at d
   have:=l j u d
   simpa using this
  ·rw[bw (by omega)] at d
   rw[← n _ _ d]
   congr 2
   have:=g.len
   omega
def Rep.src {A:Option Addr}{n c M:Nat}{ys:List e.Den}(q:Rep (.sl E e) w [.slice A n c] ys)(m:e.flat=true):n=ys.length∧((A=none∧n=0)∨∃d a,A=some d∧FrsL e M M w a ys∧∀j u,a[j]? =some u→w.cell? (d.add j)=some u):=by
 obtain ⟨s,t,g,v,x,h⟩:=q
 simp only[aN,Value.slice.injEq,and_true] at g
 obtain ⟨rfl,rfl,rfl⟩:=g
 refine ⟨rfl,?_⟩
 rcases Nat.eq_zero_or_pos ys.length with f|p
 ·cases A with
  | none=>exact .inl ⟨rfl,f⟩
  | some d=>
   obtain rfl:=bF f
   exact .inr ⟨d,[],rfl,⟨[],⟨rfl,rfl⟩,cv,by simp⟩,by simp⟩
 ·obtain ⟨b,o,rfl,i⟩:=h p
  obtain ⟨a,k,l⟩:=Qgj m b ys o i
  exact .inr ⟨⟨b,o,none⟩,a,rfl,⟨[],k,cv,by simp⟩,fun j u r=>by rw[Addr.add_lit];exact l j u r⟩
def QB7 (w:World)(E:TypeId)(e:Ty):Frs (.sl E e) w.heap.size (w.heap.size+1) (w.alloc (.cells #[] E)) [.slice (some ⟨w.heap.size,0,none⟩) 0 0] []:=
 ⟨[w.heap.size],.inr ⟨w.heap.size,0,#[],[],rfl,rfl,heap_alloc_new w _,aP _,aL _,by simp,by simpa using ⟨rfl,rfl⟩⟩,by simp,by simp⟩
end
end Go.Proofs.YtjfpbcmfbnnooaaGreat
