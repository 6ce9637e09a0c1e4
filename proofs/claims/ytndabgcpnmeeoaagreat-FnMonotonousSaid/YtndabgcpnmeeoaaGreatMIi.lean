/- laws.FnMonotonous walked: the covers found are monotonous, and none has fewer literals. -/
import Derived.Test.YtndabgcpnmeeoaaGreatMIh
import Derived.Test.YtndabgcpnmeeoaaGreatMIa
set_option linter.unusedSimpArgs false
set_option linter.unusedVariables false
set_option linter.unusedSectionVars false
namespace Go.Proofs.YtndabgcpnmeeoaaGreat
open Go.RowKit
set_option maxRecDepth 100000
set_option maxHeartbeats 4000000
section
variable {c:DSg}{R Q:List Int}{x y cube:ByteArray}{l:List ByteArray}{st:BSt}{sig i:Int}{up:Bool}{e:Int×Bool}{L:List DRc}{k:Nat}
theorem Qdf:∀(n:Nat) (x:ByteArray),x.size=n→(∀u∈x.toList,Vk u)→x∈Q1 n
 | 0,x,h,_=>by rw[Q1,aD]; exact ba0 h
 | n+1,x,h,hc=>by
  have f:x.data.toList.length=n+1:=by rw[Array.length_toList]; exact h
  have b:x.data.toList≠[]:=fun g=>by rw[g] at f; cases f
  obtain ⟨l,u,e⟩:∃l u,x.data.toList=l++[u]:=⟨x.data.toList.dropLast,x.data.toList.getLast b,(List.dropLast_concat_getLast b).symm⟩
  have o:x=(⟨l.toArray⟩:ByteArray)++⟨#[u]⟩:=QjP (by rw[QiT]; exact e)
  have j:(⟨l.toArray⟩:ByteArray).size=n:=by
   rw[e,ai,dn] at f
   show l.toArray.size=n
   simp; omega
  have a:∀v,v∈l++[u]→v∈x.toList:=fun v d=>by rw[bp,e]; exact d
  have p:=Qdf n ⟨l.toArray⟩ j fun v d=>hc v (a v (aS _ (by rw[bp] at d; exact d)))
  have m:=hc u (a u (by simp))
  rw[Q1,cH]
  refine ⟨_,p, ?_⟩
  rw[o]
  rcases m with rfl | rfl | rfl <;> simp[cuF]
theorem Qsx (h:Q2 x (c.1.length:Int)):x∈Q1 ((c.1.length:Int)).toNat:=Qdf _ x (by have:=h.2.1; omega) h.1
theorem Qmy (h:x∈Q1 ((c.1.length:Int)).toNat)(a:SgOk c):Q2 x (c.1.length:Int):=⟨QfH h,by rw[Ww h]; omega,by have:=a.sigs.2.1; have:=a.sigs.2.2; omega⟩
theorem QuC (o:x∈Q1 ((c.1.length:Int)).toNat)(n:Wi c R Q x=0):(bcV c R Q).2=true∧YC [(bcV c R Q).1]≤YC [x]:=by
 have d:∀(l:List ByteArray) (st:BSt),(x∈l∨(st.2=true∧YC [st.1]≤YC [x]))→(l.foldl (bcS c R Q) st).2=true∧YC [(l.foldl (bcS c R Q) st).1]≤YC [x]:=by
  intro l
  induction l with
  | nil=>intro st h; exact h.resolve_left (fun g=>by cases g)
  | cons y l p=>
   intro st h
   rw[aN]
   refine p (bcS c R Q st y) ?_
   by_cases b:x∈l
   ·exact .inl b
   ·refine .inr ?_
    have a:x=y∨(st.2=true∧YC [st.1]≤YC [x]):=by
     rcases h with h | h
     ·rcases aC.1 h with h | h
      ·exact .inl h
      ·exact absurd h b
     ·exact .inr h
    unfold bcS
    split
    ·rename_i g
     refine ⟨rfl, ?_⟩
     rcases a with rfl | ⟨h1,h2⟩
     ·exact cK _
     ·have f:=g.1
      rw[h1] at f
      have q:YC [y] < YC [st.1]:=by simpa using f
      show YC [y]≤YC [x]
      omega
    ·rename_i g
     rcases a with rfl | h
     ·have j:¬(!st.2||decide (YC [x] < YC [st.1]))=true:=fun m=>g ⟨m,n⟩
      simp only[cd,bS,aT,not_or,Bool.not_eq_false] at j
      exact ⟨j.1,by omega⟩
     ·exact h
 exact d _ _ (.inl o)
theorem QpF (h:Q2 x (c.1.length:Int)):ltQ [x]∧ltV [x]=YC [x]:=by
 have g:=h.2.1
 have f:=h.2.2
 have a:1≤(x.size:Int)∧(x.size:Int)≤8:=by rw[g]; exact f
 have b:ltQ [x]:= .inr ⟨a,by simp,fun y d=>by
  rw[aD] at d; subst d
  exact ⟨h.1,rfl,a⟩⟩
 exact ⟨b,if_pos b⟩
theorem Ka [∀c,Decidable (SgOk c)](h:CkP c sig up i cube)(h0:ckV c sig up i cube=0):(fdV c sig up i).2=true∧ltQ [cube]∧ltQ [(fdV c sig up i).1]∧ltV [(fdV c sig up i).1]≤ltV [cube]:=by
 rw[ckV,if_pos h] at h0
 rw[fdV,if_pos h.1,fdS]
 have a:=QuC (Qsx h.2) h0
 have f:=Qmw a.1
 have b:=QpF h.2
 have d:=QpF (Qmy f.1 h.1.1.2.2.1)
 exact ⟨a.1,b.1,d.1,by rw[b.2,d.2]; exact a.2⟩
theorem Qrq {s:Int}(h:s∈Qy c.1 c.1.length):QR c s=false:=by
 unfold Qy at h
 obtain ⟨j,b,rfl⟩:=ba.1 h
 have:=(bl.1 b).2
 unfold QR
 rw[dr]
 have a:¬((c.1[j]?).getD (ByteArray.empty,0)).2=1:=by simpa using this
 rw[aB a]; simp
theorem QtA [∀c,Decidable (SgOk c)](h:Q4 c):amV c (mcL c)=true∧AmP c (mcL c):=by
 have a:elB c (mcL c)=true:=aE (by unfold mcL; rw[dQ]; exact List.map_id'' (fun e=>rfl) _)
 have b:AmP c (mcL c):=⟨h.1,a⟩
 refine ⟨?_,b⟩
 unfold amV
 rw[aE b,Bool.true_and,av]
 intro m t
 obtain ⟨e,d,rfl⟩:=ba.1 t
 have q:=av.1 h.2 e d
 have o:=QfZ.1 d
 refine QpG (i:=(rg1 c e).length) (by show (((rg1 c e).map _).length:Int)=_; rw[aJ]; rfl) (fun j g=> ?_) (by show ((rg1 c e).map _).length≤_; rw[aJ]; exact aK _)
 have p:(rg1 c e)[j]? =some (rg1 c e)[j]:=aj g
 have r:=av.1 q _ (cM g)
 have f:=Qmw r
 have u:QeB c e.1 e.2 (j:Int):=⟨⟨QgC o,Qrq o,h.1.1,h.1.2⟩,by have:(rg1 c e).length=(regV c.2.2 (xS c.2.2 (e.1,e.2))).length:=rfl; omega⟩
 have s:regA c e.1 e.2 (j:Int)=(rg1 c e)[j]:=Qk0 p
 have n:CkP c e.1 e.2 (j:Int) (bcV c (rg1 c e)[j] (qV c e.1 (rg1 c e)[j])).1:=⟨u,Qmy f.1 h.1.1⟩
 refine QqA (cu:=(bcV c (rg1 c e)[j] (qV c e.1 (rg1 c e)[j])).1) (by show ((rg1 c e).map _)[j]? =_; rw[bg,p]; rfl) n ?_
 show ckV c e.1 e.2 (j:Int) _=0
 rw[ckV,if_pos n,s]; exact f.2
theorem Qq2:∀(xs:List DRc) (t:ByteArray),t.size+xs.length≤((xs.map (rgT c)).foldl (fun a b=>a++b) t).size
 | [],t=>aK _
 | m :: xs,t=>by
  have:=Qq2 xs (t++rgT c m)
  have d:1≤(rgT c m).size:=by
   unfold rgT
   simp only[aA]
   have:nlT.size=1:=rfl
   omega
  rw[aA] at this
  rw[be,aN,au]
  omega
theorem VV [∀c,Decidable (SgOk c)](h:FmP c L):decide (KJ c L=⟨#[]⟩)=decide ((L.length:Int)=0):=by
 rw[KJ,if_pos h]
 refine bX.2 ⟨fun g=> ?_,fun g=> ?_⟩
 ·have:=Qq2 (c:=c) (L.take L.length) ⟨#[]⟩
  have d:((L.take L.length).map (rgT c)).foldl (fun a b=>a++b) ⟨#[]⟩=(⟨#[]⟩:ByteArray):=g
  rw[d,dU] at this
  have f:(⟨#[]⟩:ByteArray).size=0:=rfl
  omega
 ·have:L=[]:=bf (by omega)
  subst this; rfl
end
theorem Kq (code:List UInt8)(g:List UInt8):FC Tryz.prog 3 [(false,[.dat QN code]),(false,[.dat QN g])] [] 0 (QX (lB true)):=by
 classical
 refine Qp Tryz.func3 rfl rfl Tryz.ntmps3 fun O_ f f4 e8 X_ f0 e9=> ?_
 refine w7 ?_
 refine lc (dK (Qh9 code g) Qpw) ?_
 refine w_ ?_
 refine cd_ (fun _ _=> ?_) fun _ _=> ?_
 refine w3 ?_
 refine Q8 0 [] (WP code) Qqv e1_ trivial rfl (fun _=>rfl) (fun _=>trivial) (nlr rfl) fun d f3=>lc (xal 0 Xn Zt) ?_
 refine w4 ?_
 refine lc (dK (VY d).frozenG Qm4) ?_
 refine w8 ?_
 refine lc (dK (XB d).frozenG QeU) ?_
 refine w10 ?_
 refine lc (ZW (Qa rfl) (Qa rfl) rfl Zv) ?_
 refine w_ ?_
 cases f1:((decide (Q4 d))==(decide (Q4 d)))
 refine w10 ?_
 refine Qd<|fqB f ?_
 ·(exfalso; simp_all; done)
 refine w2 ?_
 refine lgy rfl rfl (dK (Hf (if Q4 d then mcL d else []) (if Q4 d then mcL d else []) rfl) Qnv) ?_
 refine w9 ?_
 refine cd_ (fun _ _=> ?_) fun _ _=> ?_
 refine w3 ?_
 refine Q8 1 [] (Yi g) Qbn e1_ trivial rfl (fun _=>rfl) (fun _=>trivial) (nlr rfl) fun a b0=> ?_
 refine w6 ?_
 refine lc (xal 1 Xn Zt) ?_
 refine w12 ?_
 refine lc (dK (Z9 a.1 a.2.1 a.2.2.1 a.2.2.2.1 a.2.2.2.2) Ji) ?_
 refine w12 ?_
 refine lc (dK (Yb a.1 a.2.1 a.2.2.1 a.2.2.2.1 a.2.2.2.2) Jc) ?_
 refine w11 ?_
 refine lc (dK (Yp a.1 a.2.1 a.2.2.1 a.2.2.2.1) QaQ) ?_
 refine w11 ?_
 refine lc (dK (ZV a.1 a.2.1 a.2.2.1 a.2.2.2.1) Jd) ?_
 refine w10 ?_
 refine lc (ZW (Qa rfl) (Qa rfl) rfl Zv) ?_
 refine w_ ?_
 cases f2:((decide (CkP a.1 a.2.1 a.2.2.1 a.2.2.2.1 a.2.2.2.2))==(decide (CkP a.1 a.2.1 a.2.2.1 a.2.2.2.1 a.2.2.2.2)))
 refine w16 ?_
 refine w_ ?_
 refine Qe rfl rfl rfl ?_ rfl
 refine Qe rfl rfl rfl ?_ rfl
 refine w2 ?_
 refine Qe rfl rfl rfl ?_ rfl
 refine Qe rfl rfl rfl ?_ rfl
 refine w7 ?_
 refine Qd<|fqB f ?_
 ·(exfalso; simp_all; done)
 refine w5 ?_
 cases a8:(!decide ((ckV a.1 a.2.1 a.2.2.1 a.2.2.2.1 a.2.2.2.2)=(ckV a.1 a.2.1 a.2.2.1 a.2.2.2.1 a.2.2.2.2)))
 have a9:((ckV a.1 a.2.1 a.2.2.1 a.2.2.2.1 a.2.2.2.2)=(ckV a.1 a.2.1 a.2.2.1 a.2.2.2.1 a.2.2.2.2)):=Qu a8
 refine w2 ?_
 refine lgy rfl rfl (ZW (Qa rfl) (Qa rfl) rfl Zv) ?_
 refine w2 ?_
 cases b3:(((fdV a.1 a.2.1 a.2.2.1 a.2.2.2.1).2)==((fdV a.1 a.2.1 a.2.2.1 a.2.2.2.1).2))
 refine w7 ?_
 refine Qe rfl rfl rfl ?_ rfl
 refine Qe rfl rfl rfl ?_ rfl
 refine w2 ?_
 refine Qe rfl rfl rfl ?_ rfl
 refine Qe rfl rfl rfl ?_ rfl
 refine w7 ?_
 refine Qd<|fqB f ?_
 ·(exfalso; simp_all; done)
 refine w5 ?_
 cases p:(!decide (((fdV a.1 a.2.1 a.2.2.1 a.2.2.2.1).1)=((fdV a.1 a.2.1 a.2.2.1 a.2.2.2.1).1)))
 have H:(((fdV a.1 a.2.1 a.2.2.1 a.2.2.2.1).1)=((fdV a.1 a.2.1 a.2.2.1 a.2.2.2.1).1)):=Qu p
 refine w2 ?_
 cases q:(decide (CkP a.1 a.2.1 a.2.2.1 a.2.2.2.1 a.2.2.2.2))
 have I:=aa q
 refine w16 ?_
 refine w7 ?_
 refine Q8 2 [] (QO g) Xt e1_ trivial rfl (fun _=>rfl) (fun _=>trivial) (nlr rfl) fun b h=> ?_
 refine w3 ?_
 refine lc (xal 2 Xn Zt) ?_
 refine w6 ?_
 refine lc (dK (QW b.1 b.2) Y1) ?_
 refine w9 ?_
 refine lc (dK (QV b.1 b.2) Y0) ?_
 refine w9 ?_
 refine lc (dK (QH b.1 b.2) YY) ?_
 refine w9 ?_
 refine lc (dK (QF b.1 b.2) Y3) ?_
 refine w9 ?_
 refine lc (QU (Qa rfl) (Qa rfl) rfl Zv) ?_
 refine w_ ?_
 cases b4:((decide (AmP b.1 b.2))==(decide (AmP b.1 b.2)))
 refine w16 ?_
 refine Qd<|fqB f ?_
 ·(exfalso; simp_all; done)
 refine w2 ?_
 refine lgy rfl rfl (QU (Qa rfl) (Qa rfl) rfl Zv) ?_
 refine w2 ?_
 cases b5:((amV b.1 b.2)==(amV b.1 b.2))
 refine w11 ?_
 refine Qd<|fqB f ?_
 ·(exfalso; simp_all; done)
 refine w2 ?_
 refine lgy rfl rfl (QU (Qa rfl) (Qa rfl) rfl Zv) ?_
 refine w2 ?_
 cases b6:((decide (FmP b.1 b.2))==(decide (FmP b.1 b.2)))
 refine w6 ?_
 refine Qd<|fqB f ?_
 ·(exfalso; simp_all; done)
 refine w6 ?_
 refine Qd<|fqB f ?_
 ·(simp; done)
 have I:=ab q
 refine w4 ?_
 cases m:(decide ((ckV a.1 a.2.1 a.2.2.1 a.2.2.2.1 a.2.2.2.2)=0))
 have J:=aa m
 refine w15 ?_
 have a2:(decide ((ckV a.1 a.2.1 a.2.2.1 a.2.2.2.1 a.2.2.2.2)=0))=false:=m
 try rw[a2]
 refine w4 ?_
 refine Q8 3 [] (QO g) Xt e1_ trivial rfl (fun _=>rfl) (fun _=>trivial) (nlr rfl) fun b h=> ?_
 refine w3 ?_
 refine lc (xal 3 Xn Zt) ?_
 refine w6 ?_
 refine lc (dK (QW b.1 b.2) Y1) ?_
 refine w9 ?_
 refine lc (dK (QV b.1 b.2) Y0) ?_
 refine w9 ?_
 refine lc (dK (QH b.1 b.2) YY) ?_
 refine w9 ?_
 refine lc (dK (QF b.1 b.2) Y3) ?_
 refine w9 ?_
 refine lc (QU (Qa rfl) (Qa rfl) rfl Zv) ?_
 refine w_ ?_
 cases b7:((decide (AmP b.1 b.2))==(decide (AmP b.1 b.2)))
 refine w16 ?_
 refine Qd<|fqB f ?_
 ·(exfalso; simp_all; done)
 refine w2 ?_
 refine lgy rfl rfl (QU (Qa rfl) (Qa rfl) rfl Zv) ?_
 refine w2 ?_
 cases b8:((amV b.1 b.2)==(amV b.1 b.2))
 refine w11 ?_
 refine Qd<|fqB f ?_
 ·(exfalso; simp_all; done)
 refine w2 ?_
 refine lgy rfl rfl (QU (Qa rfl) (Qa rfl) rfl Zv) ?_
 refine w2 ?_
 cases b9:((decide (FmP b.1 b.2))==(decide (FmP b.1 b.2)))
 refine w6 ?_
 refine Qd<|fqB f ?_
 ·(exfalso; simp_all; done)
 refine w6 ?_
 refine Qd<|fqB f ?_
 ·(simp; done)
 have J:=ab m
 refine w5 ?_
 refine cx_ (fun _=> ?_) fun _=> ?_
 refine w3 ?_
 refine Qd<|fqB f ?_
 (exfalso; exact absurd ((Ka (c:=a.1) (sig:=a.2.1) (up:=a.2.2.1) (i:=a.2.2.2.1) (cube:=a.2.2.2.2) ‹_› ‹_›).1.symm.trans ‹_›) (by decide))
 refine w9 ?_
 have a3:(decide ((ckV a.1 a.2.1 a.2.2.1 a.2.2.2.1 a.2.2.2.2)=0))=true:=m
 try rw[a3]
 refine w3 ?_
 refine lc (dBs 4 (e:= .str) Ya) ?_
 refine lc (dB_ (ZI ([a.2.2.2.2])) Va) ?_
 refine w8 ?_
 refine lc (dBs 5 (e:= .str) Ya) ?_
 refine lc (dB_ (ZI ([(fdV a.1 a.2.1 a.2.2.1 a.2.2.2.1).1])) Va) ?_
 refine w10 ?_
 cases r:(decide (ltQ ([a.2.2.2.2])))
 have K:=aa r
 refine w13 ?_
 refine Qd<|fqB f ?_
 (exfalso; exact absurd (Ka (c:=a.1) (sig:=a.2.1) (up:=a.2.2.1) (i:=a.2.2.2.1) (cube:=a.2.2.2.2) ‹_› ‹_›).2.1 ‹_›)
 have K:=ab r
 refine w4 ?_
 cases s:(decide (ltQ ([(fdV a.1 a.2.1 a.2.2.1 a.2.2.2.1).1])))
 have M:=aa s
 refine w9 ?_
 refine Qd<|fqB f ?_
 (exfalso; exact absurd (Ka (c:=a.1) (sig:=a.2.1) (up:=a.2.2.1) (i:=a.2.2.2.1) (cube:=a.2.2.2.2) ‹_› ‹_›).2.2.1 ‹_›)
 have M:=ab s
 refine w5 ?_
 refine cd_ (fun _ _=> ?_) fun _ _=> ?_
 refine w3 ?_
 refine Q8 6 [] (QO g) Xt e1_ trivial rfl (fun _=>rfl) (fun _=>trivial) (nlr rfl) fun b h=> ?_
 refine w3 ?_
 refine lc (xal 6 Xn Zt) ?_
 refine w6 ?_
 refine lc (dK (QW b.1 b.2) Y1) ?_
 refine w9 ?_
 refine lc (dK (QV b.1 b.2) Y0) ?_
 refine w9 ?_
 refine lc (dK (QH b.1 b.2) YY) ?_
 refine w9 ?_
 refine lc (dK (QF b.1 b.2) Y3) ?_
 refine w9 ?_
 refine lc (QU (Qa rfl) (Qa rfl) rfl Zv) ?_
 refine w_ ?_
 cases c0:((decide (AmP b.1 b.2))==(decide (AmP b.1 b.2)))
 refine w16 ?_
 refine Qd<|fqB f ?_
 ·(exfalso; simp_all; done)
 refine w2 ?_
 refine lgy rfl rfl (QU (Qa rfl) (Qa rfl) rfl Zv) ?_
 refine w2 ?_
 cases c1:((amV b.1 b.2)==(amV b.1 b.2))
 refine w11 ?_
 refine Qd<|fqB f ?_
 ·(exfalso; simp_all; done)
 refine w2 ?_
 refine lgy rfl rfl (QU (Qa rfl) (Qa rfl) rfl Zv) ?_
 refine w2 ?_
 cases c2:((decide (FmP b.1 b.2))==(decide (FmP b.1 b.2)))
 refine w6 ?_
 refine Qd<|fqB f ?_
 ·(exfalso; simp_all; done)
 refine w6 ?_
 refine Qd<|fqB f ?_
 ·(simp; done)
 refine w3 ?_
 refine Qd<|fqB f ?_
 (exfalso; have j:=(Ka (c:=a.1) (sig:=a.2.1) (up:=a.2.2.1) (i:=a.2.2.2.1) (cube:=a.2.2.2.2) ‹_› ‹_›).2.2.2; omega)
 have H:¬(((fdV a.1 a.2.1 a.2.2.1 a.2.2.2.1).1)=((fdV a.1 a.2.1 a.2.2.1 a.2.2.2.1).1)):=QE p
 refine w2 ?_
 refine Qe rfl rfl rfl ?_ rfl
 refine Qe rfl rfl rfl ?_ rfl
 refine w2 ?_
 refine Qe rfl rfl rfl ?_ rfl
 refine Qe rfl rfl rfl ?_ rfl
 refine w7 ?_
 refine Qd<|fqB f ?_
 ·(exfalso; simp_all; done)
 have a9:¬((ckV a.1 a.2.1 a.2.2.1 a.2.2.2.1 a.2.2.2.2)=(ckV a.1 a.2.1 a.2.2.1 a.2.2.2.1 a.2.2.2.2)):=QE a8
 refine w12 ?_
 refine Qe rfl rfl rfl ?_ rfl
 refine Qe rfl rfl rfl ?_ rfl
 refine w2 ?_
 refine Qe rfl rfl rfl ?_ rfl
 refine Qe rfl rfl rfl ?_ rfl
 refine w7 ?_
 refine Qd<|fqB f ?_
 ·(exfalso; simp_all; done)
 refine w3 ?_
 refine lc (dK (QW d (if Q4 d then mcL d else [])) Y1) ?_
 refine w9 ?_
 refine lc (dK (QH d (if Q4 d then mcL d else [])) YY) ?_
 refine w9 ?_
 refine lc (dK (QV d (if Q4 d then mcL d else [])) Y0) ?_
 refine w9 ?_
 refine lc (dK (QF d (if Q4 d then mcL d else [])) Y3) ?_
 refine w6 ?_
 refine Zy ?_
 have G:=(by assumption:Q4 d)
 have hL:(if Q4 d then mcL d else [])=mcL d:=if_pos G
 have b1:amV d (if Q4 d then mcL d else [])=true:=by rw[hL]; exact (QtA G).1
 have b2:decide (AmP d (if Q4 d then mcL d else []))=true:=by rw[hL]; exact aE (QtA G).2
 rw[show (amV d (if Q4 d then mcL d else []))=true from b1]
 rw[show (decide (AmP d (if Q4 d then mcL d else [])))=true from b2]
 refine w3 ?_
 refine lc (ZW (Qa rfl) (Qa rfl) rfl Zv) ?_
 refine w_ ?_
 cases c3:(true==true)
 refine w2 ?_
 refine Qe rfl rfl rfl ?_ rfl
 refine Qe rfl rfl rfl ?_ rfl
 refine w10 ?_
 refine Qe rfl rfl rfl ?_ rfl
 refine Qe rfl rfl rfl ?_ rfl
 refine Qe rfl rfl rfl ?_ rfl
 refine Qe rfl rfl rfl ?_ rfl
 refine Qe rfl rfl rfl ?_ rfl
 refine Qe rfl rfl rfl ?_ rfl
 refine w7 ?_
 refine Qd<|fqB f ?_
 ·(exfalso; simp_all; done)
 refine w9 ?_
 refine lgy rfl rfl (ZW (Qa rfl) (Qa rfl) rfl Zv) ?_
 refine w2 ?_
 cases c4:((decide (FmP d (if Q4 d then mcL d else [])))==(decide (FmP d (if Q4 d then mcL d else []))))
 refine w2 ?_
 refine Qe rfl rfl rfl ?_ rfl
 refine Qe rfl rfl rfl ?_ rfl
 refine Qe rfl rfl rfl ?_ rfl
 refine Qe rfl rfl rfl ?_ rfl
 refine Qe rfl rfl rfl ?_ rfl
 refine Qe rfl rfl rfl ?_ rfl
 refine w7 ?_
 refine Qd<|fqB f ?_
 ·(exfalso; simp_all; done)
 refine w2 ?_
 cases t:(decide (FmP d (if Q4 d then mcL d else [])))
 have N:=aa t
 refine w13 ?_
 refine Q8 7 [] (Yi g) Qbn e1_ trivial rfl (fun _=>rfl) (fun _=>trivial) (nlr rfl) fun a b0=> ?_
 refine w6 ?_
 refine lc (xal 7 Xn Zt) ?_
 refine w12 ?_
 refine lc (dK (Z9 a.1 a.2.1 a.2.2.1 a.2.2.2.1 a.2.2.2.2) Ji) ?_
 refine w12 ?_
 refine lc (dK (Yb a.1 a.2.1 a.2.2.1 a.2.2.2.1 a.2.2.2.2) Jc) ?_
 refine w11 ?_
 refine lc (dK (Yp a.1 a.2.1 a.2.2.1 a.2.2.2.1) QaQ) ?_
 refine w11 ?_
 refine lc (dK (ZV a.1 a.2.1 a.2.2.1 a.2.2.2.1) Jd) ?_
 refine w10 ?_
 refine lc (ZW (Qa rfl) (Qa rfl) rfl Zv) ?_
 refine w_ ?_
 cases c5:((decide (CkP a.1 a.2.1 a.2.2.1 a.2.2.2.1 a.2.2.2.2))==(decide (CkP a.1 a.2.1 a.2.2.1 a.2.2.2.1 a.2.2.2.2)))
 refine w16 ?_
 refine w_ ?_
 refine Qe rfl rfl rfl ?_ rfl
 refine Qe rfl rfl rfl ?_ rfl
 refine w2 ?_
 refine Qe rfl rfl rfl ?_ rfl
 refine Qe rfl rfl rfl ?_ rfl
 refine w7 ?_
 refine Qd<|fqB f ?_
 ·(exfalso; simp_all; done)
 refine w5 ?_
 cases u:(!decide ((ckV a.1 a.2.1 a.2.2.1 a.2.2.2.1 a.2.2.2.2)=(ckV a.1 a.2.1 a.2.2.1 a.2.2.2.1 a.2.2.2.2)))
 have O:((ckV a.1 a.2.1 a.2.2.1 a.2.2.2.1 a.2.2.2.2)=(ckV a.1 a.2.1 a.2.2.1 a.2.2.2.1 a.2.2.2.2)):=Qu u
 refine w2 ?_
 refine lgy rfl rfl (ZW (Qa rfl) (Qa rfl) rfl Zv) ?_
 refine w2 ?_
 cases c6:(((fdV a.1 a.2.1 a.2.2.1 a.2.2.2.1).2)==((fdV a.1 a.2.1 a.2.2.1 a.2.2.2.1).2))
 refine w7 ?_
 refine Qe rfl rfl rfl ?_ rfl
 refine Qe rfl rfl rfl ?_ rfl
 refine w2 ?_
 refine Qe rfl rfl rfl ?_ rfl
 refine Qe rfl rfl rfl ?_ rfl
 refine w7 ?_
 refine Qd<|fqB f ?_
 ·(exfalso; simp_all; done)
 refine w5 ?_
 cases v:(!decide (((fdV a.1 a.2.1 a.2.2.1 a.2.2.2.1).1)=((fdV a.1 a.2.1 a.2.2.1 a.2.2.2.1).1)))
 have P:(((fdV a.1 a.2.1 a.2.2.1 a.2.2.2.1).1)=((fdV a.1 a.2.1 a.2.2.1 a.2.2.2.1).1)):=Qu v
 refine w2 ?_
 cases w:(decide (CkP a.1 a.2.1 a.2.2.1 a.2.2.2.1 a.2.2.2.2))
 have S:=aa w
 refine w16 ?_
 refine w7 ?_
 refine Q8 8 [] (QO g) Xt e1_ trivial rfl (fun _=>rfl) (fun _=>trivial) (nlr rfl) fun b h=> ?_
 refine w3 ?_
 refine lc (xal 8 Xn Zt) ?_
 refine w6 ?_
 refine lc (dK (QW b.1 b.2) Y1) ?_
 refine w9 ?_
 refine lc (dK (QV b.1 b.2) Y0) ?_
 refine w9 ?_
 refine lc (dK (QH b.1 b.2) YY) ?_
 refine w9 ?_
 refine lc (dK (QF b.1 b.2) Y3) ?_
 refine w9 ?_
 refine lc (QU (Qa rfl) (Qa rfl) rfl Zv) ?_
 refine w_ ?_
 cases c7:((decide (AmP b.1 b.2))==(decide (AmP b.1 b.2)))
 refine w16 ?_
 refine Qd<|fqB f ?_
 ·(exfalso; simp_all; done)
 refine w2 ?_
 refine lgy rfl rfl (QU (Qa rfl) (Qa rfl) rfl Zv) ?_
 refine w2 ?_
 cases c8:((amV b.1 b.2)==(amV b.1 b.2))
 refine w11 ?_
 refine Qd<|fqB f ?_
 ·(exfalso; simp_all; done)
 refine w2 ?_
 refine lgy rfl rfl (QU (Qa rfl) (Qa rfl) rfl Zv) ?_
 refine w2 ?_
 cases c9:((decide (FmP b.1 b.2))==(decide (FmP b.1 b.2)))
 refine w6 ?_
 refine Qd<|fqB f ?_
 ·(exfalso; simp_all; done)
 refine w6 ?_
 refine Qd<|fqB f ?_
 ·(simp; done)
 have S:=ab w
 refine w4 ?_
 cases n:(decide ((ckV a.1 a.2.1 a.2.2.1 a.2.2.2.1 a.2.2.2.2)=0))
 have T:=aa n
 refine w15 ?_
 have a4:(decide ((ckV a.1 a.2.1 a.2.2.1 a.2.2.2.1 a.2.2.2.2)=0))=false:=n
 try rw[a4]
 refine w4 ?_
 refine Q8 9 [] (QO g) Xt e1_ trivial rfl (fun _=>rfl) (fun _=>trivial) (nlr rfl) fun b h=> ?_
 refine w3 ?_
 refine lc (xal 9 Xn Zt) ?_
 refine w6 ?_
 refine lc (dK (QW b.1 b.2) Y1) ?_
 refine w9 ?_
 refine lc (dK (QV b.1 b.2) Y0) ?_
 refine w9 ?_
 refine lc (dK (QH b.1 b.2) YY) ?_
 refine w9 ?_
 refine lc (dK (QF b.1 b.2) Y3) ?_
 refine w9 ?_
 refine lc (QU (Qa rfl) (Qa rfl) rfl Zv) ?_
 refine w_ ?_
 cases d0:((decide (AmP b.1 b.2))==(decide (AmP b.1 b.2)))
 refine w16 ?_
 refine Qd<|fqB f ?_
 ·(exfalso; simp_all; done)
 refine w2 ?_
 refine lgy rfl rfl (QU (Qa rfl) (Qa rfl) rfl Zv) ?_
 refine w2 ?_
 cases d1:((amV b.1 b.2)==(amV b.1 b.2))
 refine w11 ?_
 refine Qd<|fqB f ?_
 ·(exfalso; simp_all; done)
 refine w2 ?_
 refine lgy rfl rfl (QU (Qa rfl) (Qa rfl) rfl Zv) ?_
 refine w2 ?_
 cases d2:((decide (FmP b.1 b.2))==(decide (FmP b.1 b.2)))
 refine w6 ?_
 refine Qd<|fqB f ?_
 ·(exfalso; simp_all; done)
 refine w6 ?_
 refine Qd<|fqB f ?_
 ·(simp; done)
 have T:=ab n
 refine w5 ?_
 refine cx_ (fun _=> ?_) fun _=> ?_
 refine w3 ?_
 refine Qd<|fqB f ?_
 (exfalso; exact absurd ((Ka (c:=a.1) (sig:=a.2.1) (up:=a.2.2.1) (i:=a.2.2.2.1) (cube:=a.2.2.2.2) ‹_› ‹_›).1.symm.trans ‹_›) (by decide))
 refine w9 ?_
 have a5:(decide ((ckV a.1 a.2.1 a.2.2.1 a.2.2.2.1 a.2.2.2.2)=0))=true:=n
 try rw[a5]
 refine w3 ?_
 refine lc (dBs 10 (e:= .str) Ya) ?_
 refine lc (dB_ (ZI ([a.2.2.2.2])) Va) ?_
 refine w8 ?_
 refine lc (dBs 11 (e:= .str) Ya) ?_
 refine lc (dB_ (ZI ([(fdV a.1 a.2.1 a.2.2.1 a.2.2.2.1).1])) Va) ?_
 refine w10 ?_
 cases z:(decide (ltQ ([a.2.2.2.2])))
 have U:=aa z
 refine w13 ?_
 refine Qd<|fqB f ?_
 (exfalso; exact absurd (Ka (c:=a.1) (sig:=a.2.1) (up:=a.2.2.1) (i:=a.2.2.2.1) (cube:=a.2.2.2.2) ‹_› ‹_›).2.1 ‹_›)
 have U:=ab z
 refine w4 ?_
 cases A:(decide (ltQ ([(fdV a.1 a.2.1 a.2.2.1 a.2.2.2.1).1])))
 have V:=aa A
 refine w9 ?_
 refine Qd<|fqB f ?_
 (exfalso; exact absurd (Ka (c:=a.1) (sig:=a.2.1) (up:=a.2.2.1) (i:=a.2.2.2.1) (cube:=a.2.2.2.2) ‹_› ‹_›).2.2.1 ‹_›)
 have V:=ab A
 refine w5 ?_
 refine cd_ (fun _ _=> ?_) fun _ _=> ?_
 refine w3 ?_
 refine Q8 12 [] (QO g) Xt e1_ trivial rfl (fun _=>rfl) (fun _=>trivial) (nlr rfl) fun b h=> ?_
 refine w3 ?_
 refine lc (xal 12 Xn Zt) ?_
 refine w6 ?_
 refine lc (dK (QW b.1 b.2) Y1) ?_
 refine w9 ?_
 refine lc (dK (QV b.1 b.2) Y0) ?_
 refine w9 ?_
 refine lc (dK (QH b.1 b.2) YY) ?_
 refine w9 ?_
 refine lc (dK (QF b.1 b.2) Y3) ?_
 refine w9 ?_
 refine lc (QU (Qa rfl) (Qa rfl) rfl Zv) ?_
 refine w_ ?_
 cases d3:((decide (AmP b.1 b.2))==(decide (AmP b.1 b.2)))
 refine w16 ?_
 refine Qd<|fqB f ?_
 ·(exfalso; simp_all; done)
 refine w2 ?_
 refine lgy rfl rfl (QU (Qa rfl) (Qa rfl) rfl Zv) ?_
 refine w2 ?_
 cases d4:((amV b.1 b.2)==(amV b.1 b.2))
 refine w11 ?_
 refine Qd<|fqB f ?_
 ·(exfalso; simp_all; done)
 refine w2 ?_
 refine lgy rfl rfl (QU (Qa rfl) (Qa rfl) rfl Zv) ?_
 refine w2 ?_
 cases d5:((decide (FmP b.1 b.2))==(decide (FmP b.1 b.2)))
 refine w6 ?_
 refine Qd<|fqB f ?_
 ·(exfalso; simp_all; done)
 refine w6 ?_
 refine Qd<|fqB f ?_
 ·(simp; done)
 refine w3 ?_
 refine Qd<|fqB f ?_
 (exfalso; have j:=(Ka (c:=a.1) (sig:=a.2.1) (up:=a.2.2.1) (i:=a.2.2.2.1) (cube:=a.2.2.2.2) ‹_› ‹_›).2.2.2; omega)
 have P:¬(((fdV a.1 a.2.1 a.2.2.1 a.2.2.2.1).1)=((fdV a.1 a.2.1 a.2.2.1 a.2.2.2.1).1)):=QE v
 refine w2 ?_
 refine Qe rfl rfl rfl ?_ rfl
 refine Qe rfl rfl rfl ?_ rfl
 refine w2 ?_
 refine Qe rfl rfl rfl ?_ rfl
 refine Qe rfl rfl rfl ?_ rfl
 refine w7 ?_
 refine Qd<|fqB f ?_
 ·(exfalso; simp_all; done)
 have O:¬((ckV a.1 a.2.1 a.2.2.1 a.2.2.2.1 a.2.2.2.2)=(ckV a.1 a.2.1 a.2.2.1 a.2.2.2.1 a.2.2.2.2)):=QE u
 refine w12 ?_
 refine Qe rfl rfl rfl ?_ rfl
 refine Qe rfl rfl rfl ?_ rfl
 refine w2 ?_
 refine Qe rfl rfl rfl ?_ rfl
 refine Qe rfl rfl rfl ?_ rfl
 refine w7 ?_
 refine Qd<|fqB f ?_
 ·(exfalso; simp_all; done)
 have N:=ab t
 refine w3 ?_
 refine alL 114 fun _=> ?_
 refine w2 ?_
 refine lgy rfl rfl (ZW (Qa rfl) (Qa rfl) rfl Zv) ?_
 refine w3 ?_
 cases d6:((decide ((KJ d (if Q4 d then mcL d else []))=(⟨#[]⟩:ByteArray)))==(decide (((if Q4 d then mcL d else []).length:Int)=0)))
 refine w4 ?_
 refine Qd<|fqB f ?_
 ·(exfalso; have j:=VV (L:=(if Q4 d then mcL d else [])) (by assumption:FmP d (if Q4 d then mcL d else [])); simp_all; done)
 refine w4 ?_
 refine Q8 13 [] (Yi g) Qbn e1_ trivial rfl (fun _=>rfl) (fun _=>trivial) (nlr rfl) fun a b0=> ?_
 refine w6 ?_
 refine lc (xal 13 Xn Zt) ?_
 refine w12 ?_
 refine lc (dK (Z9 a.1 a.2.1 a.2.2.1 a.2.2.2.1 a.2.2.2.2) Ji) ?_
 refine w12 ?_
 refine lc (dK (Yb a.1 a.2.1 a.2.2.1 a.2.2.2.1 a.2.2.2.2) Jc) ?_
 refine w11 ?_
 refine lc (dK (Yp a.1 a.2.1 a.2.2.1 a.2.2.2.1) QaQ) ?_
 refine w11 ?_
 refine lc (dK (ZV a.1 a.2.1 a.2.2.1 a.2.2.2.1) Jd) ?_
 refine w10 ?_
 refine lc (ZW (Qa rfl) (Qa rfl) rfl Zv) ?_
 refine w_ ?_
 cases d7:((decide (CkP a.1 a.2.1 a.2.2.1 a.2.2.2.1 a.2.2.2.2))==(decide (CkP a.1 a.2.1 a.2.2.1 a.2.2.2.1 a.2.2.2.2)))
 refine w16 ?_
 refine w_ ?_
 refine Qe rfl rfl rfl ?_ rfl
 refine Qe rfl rfl rfl ?_ rfl
 refine w2 ?_
 refine Qe rfl rfl rfl ?_ rfl
 refine Qe rfl rfl rfl ?_ rfl
 refine w7 ?_
 refine Qd<|fqB f ?_
 ·(exfalso; have j:=VV (L:=(if Q4 d then mcL d else [])) (by assumption:FmP d (if Q4 d then mcL d else [])); simp_all; done)
 refine w5 ?_
 cases B:(!decide ((ckV a.1 a.2.1 a.2.2.1 a.2.2.2.1 a.2.2.2.2)=(ckV a.1 a.2.1 a.2.2.1 a.2.2.2.1 a.2.2.2.2)))
 have W:((ckV a.1 a.2.1 a.2.2.1 a.2.2.2.1 a.2.2.2.2)=(ckV a.1 a.2.1 a.2.2.1 a.2.2.2.1 a.2.2.2.2)):=Qu B
 refine w2 ?_
 refine lgy rfl rfl (ZW (Qa rfl) (Qa rfl) rfl Zv) ?_
 refine w2 ?_
 cases d8:(((fdV a.1 a.2.1 a.2.2.1 a.2.2.2.1).2)==((fdV a.1 a.2.1 a.2.2.1 a.2.2.2.1).2))
 refine w7 ?_
 refine Qe rfl rfl rfl ?_ rfl
 refine Qe rfl rfl rfl ?_ rfl
 refine w2 ?_
 refine Qe rfl rfl rfl ?_ rfl
 refine Qe rfl rfl rfl ?_ rfl
 refine w7 ?_
 refine Qd<|fqB f ?_
 ·(exfalso; have j:=VV (L:=(if Q4 d then mcL d else [])) (by assumption:FmP d (if Q4 d then mcL d else [])); simp_all; done)
 refine w5 ?_
 cases C:(!decide (((fdV a.1 a.2.1 a.2.2.1 a.2.2.2.1).1)=((fdV a.1 a.2.1 a.2.2.1 a.2.2.2.1).1)))
 have X:(((fdV a.1 a.2.1 a.2.2.1 a.2.2.2.1).1)=((fdV a.1 a.2.1 a.2.2.1 a.2.2.2.1).1)):=Qu C
 refine w2 ?_
 cases D:(decide (CkP a.1 a.2.1 a.2.2.1 a.2.2.2.1 a.2.2.2.2))
 have Y:=aa D
 refine w16 ?_
 refine w7 ?_
 refine Q8 14 [] (QO g) Xt e1_ trivial rfl (fun _=>rfl) (fun _=>trivial) (nlr rfl) fun b h=> ?_
 refine w3 ?_
 refine lc (xal 14 Xn Zt) ?_
 refine w6 ?_
 refine lc (dK (QW b.1 b.2) Y1) ?_
 refine w9 ?_
 refine lc (dK (QV b.1 b.2) Y0) ?_
 refine w9 ?_
 refine lc (dK (QH b.1 b.2) YY) ?_
 refine w9 ?_
 refine lc (dK (QF b.1 b.2) Y3) ?_
 refine w9 ?_
 refine lc (QU (Qa rfl) (Qa rfl) rfl Zv) ?_
 refine w_ ?_
 cases d9:((decide (AmP b.1 b.2))==(decide (AmP b.1 b.2)))
 refine w16 ?_
 refine Qd<|fqB f ?_
 ·(exfalso; have j:=VV (L:=(if Q4 d then mcL d else [])) (by assumption:FmP d (if Q4 d then mcL d else [])); simp_all; done)
 refine w2 ?_
 refine lgy rfl rfl (QU (Qa rfl) (Qa rfl) rfl Zv) ?_
 refine w2 ?_
 cases e0:((amV b.1 b.2)==(amV b.1 b.2))
 refine w11 ?_
 refine Qd<|fqB f ?_
 ·(exfalso; have j:=VV (L:=(if Q4 d then mcL d else [])) (by assumption:FmP d (if Q4 d then mcL d else [])); simp_all; done)
 refine w2 ?_
 refine lgy rfl rfl (QU (Qa rfl) (Qa rfl) rfl Zv) ?_
 refine w2 ?_
 cases e1:((decide (FmP b.1 b.2))==(decide (FmP b.1 b.2)))
 refine w6 ?_
 refine Qd<|fqB f ?_
 ·(exfalso; have j:=VV (L:=(if Q4 d then mcL d else [])) (by assumption:FmP d (if Q4 d then mcL d else [])); simp_all; done)
 refine w6 ?_
 refine Qd<|fqB f ?_
 ·(simp; done)
 have Y:=ab D
 refine w4 ?_
 cases o:(decide ((ckV a.1 a.2.1 a.2.2.1 a.2.2.2.1 a.2.2.2.2)=0))
 have Z:=aa o
 refine w15 ?_
 have a6:(decide ((ckV a.1 a.2.1 a.2.2.1 a.2.2.2.1 a.2.2.2.2)=0))=false:=o
 try rw[a6]
 refine w4 ?_
 refine Q8 15 [] (QO g) Xt e1_ trivial rfl (fun _=>rfl) (fun _=>trivial) (nlr rfl) fun b h=> ?_
 refine w3 ?_
 refine lc (xal 15 Xn Zt) ?_
 refine w6 ?_
 refine lc (dK (QW b.1 b.2) Y1) ?_
 refine w9 ?_
 refine lc (dK (QV b.1 b.2) Y0) ?_
 refine w9 ?_
 refine lc (dK (QH b.1 b.2) YY) ?_
 refine w9 ?_
 refine lc (dK (QF b.1 b.2) Y3) ?_
 refine w9 ?_
 refine lc (QU (Qa rfl) (Qa rfl) rfl Zv) ?_
 refine w_ ?_
 cases e2:((decide (AmP b.1 b.2))==(decide (AmP b.1 b.2)))
 refine w16 ?_
 refine Qd<|fqB f ?_
 ·(exfalso; have j:=VV (L:=(if Q4 d then mcL d else [])) (by assumption:FmP d (if Q4 d then mcL d else [])); simp_all; done)
 refine w2 ?_
 refine lgy rfl rfl (QU (Qa rfl) (Qa rfl) rfl Zv) ?_
 refine w2 ?_
 cases e3:((amV b.1 b.2)==(amV b.1 b.2))
 refine w11 ?_
 refine Qd<|fqB f ?_
 ·(exfalso; have j:=VV (L:=(if Q4 d then mcL d else [])) (by assumption:FmP d (if Q4 d then mcL d else [])); simp_all; done)
 refine w2 ?_
 refine lgy rfl rfl (QU (Qa rfl) (Qa rfl) rfl Zv) ?_
 refine w2 ?_
 cases e4:((decide (FmP b.1 b.2))==(decide (FmP b.1 b.2)))
 refine w6 ?_
 refine Qd<|fqB f ?_
 ·(exfalso; have j:=VV (L:=(if Q4 d then mcL d else [])) (by assumption:FmP d (if Q4 d then mcL d else [])); simp_all; done)
 refine w6 ?_
 refine Qd<|fqB f ?_
 ·(simp; done)
 have Z:=ab o
 refine w5 ?_
 refine cx_ (fun _=> ?_) fun _=> ?_
 refine w3 ?_
 refine Qd<|fqB f ?_
 (exfalso; exact absurd ((Ka (c:=a.1) (sig:=a.2.1) (up:=a.2.2.1) (i:=a.2.2.2.1) (cube:=a.2.2.2.2) ‹_› ‹_›).1.symm.trans ‹_›) (by decide))
 refine w9 ?_
 have a7:(decide ((ckV a.1 a.2.1 a.2.2.1 a.2.2.2.1 a.2.2.2.2)=0))=true:=o
 try rw[a7]
 refine w3 ?_
 refine lc (dBs 16 (e:= .str) Ya) ?_
 refine lc (dB_ (ZI ([a.2.2.2.2])) Va) ?_
 refine w8 ?_
 refine lc (dBs 17 (e:= .str) Ya) ?_
 refine lc (dB_ (ZI ([(fdV a.1 a.2.1 a.2.2.1 a.2.2.2.1).1])) Va) ?_
 refine w10 ?_
 cases E:(decide (ltQ ([a.2.2.2.2])))
 have a0:=aa E
 refine w13 ?_
 refine Qd<|fqB f ?_
 (exfalso; exact absurd (Ka (c:=a.1) (sig:=a.2.1) (up:=a.2.2.1) (i:=a.2.2.2.1) (cube:=a.2.2.2.2) ‹_› ‹_›).2.1 ‹_›)
 have a0:=ab E
 refine w4 ?_
 cases F:(decide (ltQ ([(fdV a.1 a.2.1 a.2.2.1 a.2.2.2.1).1])))
 have a1:=aa F
 refine w9 ?_
 refine Qd<|fqB f ?_
 (exfalso; exact absurd (Ka (c:=a.1) (sig:=a.2.1) (up:=a.2.2.1) (i:=a.2.2.2.1) (cube:=a.2.2.2.2) ‹_› ‹_›).2.2.1 ‹_›)
 have a1:=ab F
 refine w5 ?_
 refine cd_ (fun _ _=> ?_) fun _ _=> ?_
 refine w3 ?_
 refine Q8 18 [] (QO g) Xt e1_ trivial rfl (fun _=>rfl) (fun _=>trivial) (nlr rfl) fun b h=> ?_
 refine w3 ?_
 refine lc (xal 18 Xn Zt) ?_
 refine w6 ?_
 refine lc (dK (QW b.1 b.2) Y1) ?_
 refine w9 ?_
 refine lc (dK (QV b.1 b.2) Y0) ?_
 refine w9 ?_
 refine lc (dK (QH b.1 b.2) YY) ?_
 refine w9 ?_
 refine lc (dK (QF b.1 b.2) Y3) ?_
 refine w9 ?_
 refine lc (QU (Qa rfl) (Qa rfl) rfl Zv) ?_
 refine w_ ?_
 cases e5:((decide (AmP b.1 b.2))==(decide (AmP b.1 b.2)))
 refine w16 ?_
 refine Qd<|fqB f ?_
 ·(exfalso; have j:=VV (L:=(if Q4 d then mcL d else [])) (by assumption:FmP d (if Q4 d then mcL d else [])); simp_all; done)
 refine w2 ?_
 refine lgy rfl rfl (QU (Qa rfl) (Qa rfl) rfl Zv) ?_
 refine w2 ?_
 cases e6:((amV b.1 b.2)==(amV b.1 b.2))
 refine w11 ?_
 refine Qd<|fqB f ?_
 ·(exfalso; have j:=VV (L:=(if Q4 d then mcL d else [])) (by assumption:FmP d (if Q4 d then mcL d else [])); simp_all; done)
 refine w2 ?_
 refine lgy rfl rfl (QU (Qa rfl) (Qa rfl) rfl Zv) ?_
 refine w2 ?_
 cases e7:((decide (FmP b.1 b.2))==(decide (FmP b.1 b.2)))
 refine w6 ?_
 refine Qd<|fqB f ?_
 ·(exfalso; have j:=VV (L:=(if Q4 d then mcL d else [])) (by assumption:FmP d (if Q4 d then mcL d else [])); simp_all; done)
 refine w6 ?_
 refine Qd<|fqB f ?_
 ·(simp; done)
 refine w3 ?_
 refine Qd<|fqB f ?_
 (exfalso; have j:=(Ka (c:=a.1) (sig:=a.2.1) (up:=a.2.2.1) (i:=a.2.2.2.1) (cube:=a.2.2.2.2) ‹_› ‹_›).2.2.2; omega)
 have X:¬(((fdV a.1 a.2.1 a.2.2.1 a.2.2.2.1).1)=((fdV a.1 a.2.1 a.2.2.1 a.2.2.2.1).1)):=QE C
 refine w2 ?_
 refine Qe rfl rfl rfl ?_ rfl
 refine Qe rfl rfl rfl ?_ rfl
 refine w2 ?_
 refine Qe rfl rfl rfl ?_ rfl
 refine Qe rfl rfl rfl ?_ rfl
 refine w7 ?_
 refine Qd<|fqB f ?_
 ·(exfalso; have j:=VV (L:=(if Q4 d then mcL d else [])) (by assumption:FmP d (if Q4 d then mcL d else [])); simp_all; done)
 have W:¬((ckV a.1 a.2.1 a.2.2.1 a.2.2.2.1 a.2.2.2.2)=(ckV a.1 a.2.1 a.2.2.1 a.2.2.2.1 a.2.2.2.2)):=QE B
 refine w12 ?_
 refine Qe rfl rfl rfl ?_ rfl
 refine Qe rfl rfl rfl ?_ rfl
 refine w2 ?_
 refine Qe rfl rfl rfl ?_ rfl
 refine Qe rfl rfl rfl ?_ rfl
 refine w7 ?_
 refine Qd<|fqB f ?_
 ·(exfalso; have j:=VV (L:=(if Q4 d then mcL d else [])) (by assumption:FmP d (if Q4 d then mcL d else [])); simp_all; done)
 refine w4 ?_
 exact fe_ f
end Go.Proofs.YtndabgcpnmeeoaaGreat
