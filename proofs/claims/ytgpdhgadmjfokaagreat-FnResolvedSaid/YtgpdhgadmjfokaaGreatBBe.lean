/- Walks over abstract states: traces, the program; texts of one graph within those of another. -/
import Derived.Test.YtgpdhgadmjfokaaGreatBEg
import Derived.Test.YtgpdhgadmjfokaaGreatBAy
import Derived.Test.YtgpdhgadmjfokaaGreatBUa
import Derived.Test.YtgpdhgadmjfokaaGreatBAv
set_option linter.unusedSimpArgs false
set_option linter.unusedVariables false
set_option linter.unusedSectionVars false
namespace Go.Proofs.YtgpdhgadmjfokaaGreat
open Go.RowKit
set_option maxRecDepth 100000
set_option maxHeartbeats 4000000
def kyL (B:DLv):List ByteArray:=B.map fun p=>p.1
section
variable {c:DSg}[Decidable (SgOk c)]{h m:Int}{n k:Nat}{M B Z:DLv}{out:List ByteArray}{z:ByteArray×List Int}
theorem Qzi:out=out++kyL []:=(bq _).symm
theorem Qzr:(out++kyL B)++[z.1]=out++kyL (B++[z]):=by unfold kyL; rw[bj,aP]; rfl
theorem QsR:(kyL B).length=B.length:=by unfold kyL; rw[aC]
theorem Qwd (d:SgOk c)(g:Lev c h (n+1) M)(e:(txL c h n).length≤400):M.length≤1600000:=by
 have o:=Qt8 (h:=h) (n:=n) d
 have q:=Qup (h:=h) (n:=n) d
 have i:(kyL M).Nodup:=by
  unfold kyL List.Nodup
  rw[cK]; exact g.nod
 have e:=KQ i (m:=(Uj c h (n+1)).map fun x=>x.1) fun t j=>by
  obtain ⟨p,f,rfl⟩:=aR.1 j
  obtain ⟨u,l⟩:=(g.mem p f).1
  exact aR.2 ((QiG (Qdt d (n+1)).1.1).2 ⟨u,((g.mem p f).2 u).1 l⟩)
 rw[QsR,aC] at e
 omega
theorem QwC (g:(B++Z).Perm M):B.length≤M.length:=by have:=g.length_eq; rw[ae] at this; omega
theorem QyE (f:SgOk c)(d:OuI c h n out)(k:(400:Int) < (out.length:Int))(e:n≤m.toNat):([],false)=trV c h m:=by
 have:=d.len f Wx
 exact (QqI Wx (n:=n) (by omega) e).symm
theorem Qyd (g:QmG c h m)(d:OuI c h n out)(f:out.length≤400)(e:n=m.toNat):(VZ out,true)=trV c h m:=by
 subst e
 have:=d.len g.1 Wx
 rw[QwQ g.1 d]
 exact (Qvh g (by omega)).symm
end
theorem Wu (c:ZB)(d:Int)(f:Int)[∀c,Decidable (SgOk c)]:FC Tryz.prog 24 [(true,[.dat Ql c.1, .dat Qm c.2.1, .dat Qu c.2.2]),(false,[dI d]),(false,[dI f])] [] 0 (Is (PV.tup [(false,[.ref 0]),(false,[dB ((trV c d f).2)])]) [ar 0 9 .str ((trV c d f).1)]):=by
 classical
 refine Qt Tryz.func24 rfl rfl Tryz.ntmps24 fun O_ N b5 b1 X_ b3 b2=> ?_
 refine acI 1 fun _=> ?_
 refine acI 2 fun _=> ?_
 refine w_ ?_
 refine xbx 0 ?_
 refine w6 ?_
 refine lc (dK (Zw c) V4) ?_
 refine w2 ?_
 cases O:(decide (SgOk c))
 have P:=aa O
 refine w16 ?_
 refine w3 ?_
 refine AC.wk (Wk.nilS 1 6 9 .str rfl (Fresh.of rfl) (nlr rfl))<|Qd ?_
 have e4:(false:Bool)=((trV c d f).2):=by
  exact congrArg Prod.snd (Qha (fun g=>by first | exact absurd g.1 ‹_› | exact absurd g.2.1 ‹_› | exact absurd g.2.2 ‹_›))
 exact fi_ [(0,1)] N ⟨(Qe (by exact congrArg Prod.fst (Qha (fun g=>by first | exact absurd g.1 ‹_› | exact absurd g.2.1 ‹_› | exact absurd g.2.2 ‹_›)))),trivial⟩ (h0:=by rw[← e4] <;> rfl)
 have P:=ab O
 refine w3 ?_
 refine alL 22 fun _=> ?_
 refine w2 ?_
 refine lgy rfl rfl (dK (Zh d (-1) ((c.1.length:Int) - 1)) Yh) ?_
 refine w3 ?_
 cases Q:(decide ((-1)≤d∧d≤((c.1.length:Int) - 1)))
 have S:=aa Q
 refine w10 ?_
 refine AC.wk (Wk.nilS 2 6 9 .str rfl (Fresh.of rfl) (nlr rfl))<|Qd ?_
 have e7:(false:Bool)=((trV c d f).2):=by
  exact congrArg Prod.snd (Qha (fun g=>by first | exact absurd g.1 ‹_› | exact absurd g.2.1 ‹_› | exact absurd g.2.2 ‹_›))
 exact fi_ [(0,2)] N ⟨(Qe (by exact congrArg Prod.fst (Qha (fun g=>by first | exact absurd g.1 ‹_› | exact absurd g.2.1 ‹_› | exact absurd g.2.2 ‹_›)))),trivial⟩ (h0:=by rw[← e7] <;> rfl)
 have S:=ab Q
 refine w_ ?_
 refine lgy rfl rfl (dK (Zh f 0 6) Yh) ?_
 refine w3 ?_
 cases T:(decide (0≤f∧f≤6))
 have U:=aa T
 refine w5 ?_
 refine AC.wk (Wk.nilS 3 6 9 .str rfl (Fresh.of rfl) (nlr rfl))<|Qd ?_
 have e9:(false:Bool)=((trV c d f).2):=by
  exact congrArg Prod.snd (Qha (fun g=>by first | exact absurd g.1 ‹_› | exact absurd g.2.1 ‹_› | exact absurd g.2.2 ‹_›))
 exact fi_ [(0,3)] N ⟨(Qe (by exact congrArg Prod.fst (Qha (fun g=>by first | exact absurd g.1 ‹_› | exact absurd g.2.1 ‹_› | exact absurd g.2.2 ‹_›)))),trivial⟩ (h0:=by rw[← e9] <;> rfl)
 have U:=ab T
 refine w3 ?_
 refine lc (dBs 4 (e:= .str) Va) ?_
 refine lc (KX (kt:=9) (et:=32) (kb:=false) (k:= .str) (vb:=false) (v:=QA) 5 rfl (Fresh.of rfl) (nlr rfl)) ?_
 refine w_ ?_
 refine lc (dBs 6 (e:= .int) Yj) ?_
 refine w_ ?_
 refine lc (QcL 7 (Jz c ([0]) d ‹_› (QiO ‹SgOk c›)) Qem ⟨_,_,rfl,(Ev.b (Qo rfl)),⟨_,_,rfl,(Qb5 (Qa rfl) rfl),⟨_,_,rfl,(Ev.b (Qo rfl)),rfl⟩⟩⟩ rfl (Fresh.of rfl) (nlr rfl))<|lc (QjM Qnp KU (Qa rfl) rfl (Evl.ev (Evl.str rfl)) (p:=(⟨#[]⟩:ByteArray)) rfl (Qo rfl) (u:=clV c d ([0])) rfl) ?_
 refine w10 ?_
 refine QL (fun r t=>∃(k:Nat) (out:List ByteArray) (j:List (ByteArray×List Int)),k≤f.toNat∧r=f.toNat - k∧(OuI c d k out)∧(Lev c d k j)∧(out.length≤400)∧t=⟨[(1,lI d),(3,lP 0 0),(8,lR 8),(9,lR 9),(40,lI f),(41,lI (k:Int))],[bx 0 27 [.dat Ql c.1, .dat Qm c.2.1, .dat Qu c.2.2],ar 8 9 .str out,(9,some (.mp false .str false QA j))]⟩) ⟨0,[(⟨#[]⟩:ByteArray)],Y2 .str ([]) (⟨#[]⟩:ByteArray) (clV c d ([0])),aS _,rfl,OuI.zero,(Qsx ‹SgOk c›),(by simp),rfl⟩ ?_ ?_
 exact wp [(8,4),(9,5)] ⟨rfl,(Qe (by first | rfl | simp)),(Qpz (by first | rfl | simp)),trivial⟩
 rintro r t ⟨k,out,j,a5,a6,x,hL,h4,rfl⟩
 refine w4 ?_
 cases y:(decide ((k:Int) < f))
 have G:=aa y
 refine w5 ?_
 refine lc (dP 10 [(0,8)] (Qrj out (by omega)) QlP) ?_
 refine w7 ?_
 have a3:(true:Bool)=((trV c d f).2):=by
  exact congrArg Prod.snd (Qyd ⟨by assumption,by omega,by omega⟩ x h4 (by omega))
 exact fi_ [(0,8)] N ⟨(Qe (by exact congrArg Prod.fst (Qyd ⟨by assumption,by omega,by omega⟩ x h4 (by omega)))),trivial⟩ (h0:=by rw[← a3] <;> rfl)
 have G:=ab y
 refine w5 ?_
 refine lc (KX (kt:=9) (et:=32) (kb:=false) (k:= .str) (vb:=false) (v:=QA) 11 rfl (Fresh.of rfl) (nlr rfl)) ?_
 refine w5 ?_
 refine AL.wk (QnP (q:=9) rfl rfl)<|QdS false (q:=9) KU (Qa rfl) rfl rfl fun s=> ?_
 refine w2 ?_
 refine QL (fun r t=>∃(L:DLv) (l:List (ByteArray×List Int)) (D:DLv),r=L.length∧((D++L).Perm j)∧(NxI c d (Vs c d D) l)∧t=⟨[(1,lI d),(3,lP 0 0),(8,lR 8),(9,lR 9),(10,lR 12),(40,lI f),(41,lI (k:Int)),(42,lB true),(44,lR 9),(45,lf (.val s))],[bx 0 27 [.dat Ql c.1, .dat Qm c.2.1, .dat Qu c.2.2],ar 8 9 .str out,(9,some (.res (itR (vFz QA) .str false j L none s))),(12,some (.mp false .str false QA l))]⟩) ⟨j,[],[],rfl,(du _),QuW,rfl⟩ ?_ ?_
 exact wp [(12,11)] ⟨rfl,rfl,rfl,(Qpz (by first | rfl | simp)),trivial⟩
 rintro r t ⟨L,l,D,V,hD,hN,rfl⟩
 refine w_ ?_
 refine Qir (q:=9) (Qa rfl) rfl (.inl rfl) rfl (fun J=> ?_) (fun Y a2 q1 q q2 J=> ?_)
 refine AL.wk (Qom (q:=9) rfl)<|AL.wk (QnI (q:=9) rfl rfl) ?_
 refine w7 ?_
 refine Yo ?_
 have hK:=Qwc hL hN hD J
 have b4:=Qwd ‹SgOk c› hK (by have:=x.len ‹SgOk c› Wx; omega)
 refine w2 ?_
 refine AL.wk (QnP (q:=12) rfl rfl)<|QdS false (q:=12) KU (Qa rfl) rfl rfl fun a0=> ?_
 refine w2 ?_
 refine QL (fun r t=>∃(Z:DLv) (B:DLv),r=Z.length∧((B++Z).Perm l)∧t=⟨[(1,lI d),(3,lP 0 0),(8,lR 13),(9,lR 9),(10,lR 12),(40,lI f),(41,lI (k:Int)),(42,lB true),(44,lR 9),(45,lf (.val s)),(46,PV.tup [(false,[dB false])]),(47,lB false),(70,lR 12),(71,lf (.val a0))],[bx 0 27 [.dat Ql c.1, .dat Qm c.2.1, .dat Qu c.2.2],(9,some (.mp false .str false QA j)),(12,some (.res (itR (vFz QA) .str false l Z none a0))),ar 13 9 .str (out++kyL B)]⟩) ⟨l,[],rfl,(du _),rfl⟩ ?_ ?_
 exact wp [(13,8)] ⟨rfl,rfl,rfl,(Qe (Qzi)),trivial⟩
 rintro r t ⟨Z,B,W,hB,rfl⟩
 refine w_ ?_
 refine Qir (q:=12) (Qa rfl) rfl (.inl rfl) rfl (fun hz=> ?_) (fun a7 a9 z1 z z2 hz=> ?_)
 refine AL.wk (Qom (q:=12) rfl)<|AL.wk (QnI (q:=12) rfl rfl) ?_
 refine w7 ?_
 refine Yo ?_
 have F:OuI c d (k+1) (out++kyL B):=OuI.next ‹SgOk c› x hK (Qfw hB hz)
 refine w5 ?_
 cases A:(decide (400 < ((out++kyL B).length:Int)))
 have H:=aa A
 refine w5 ?_
 refine Qb ?_
 refine w4 ?_
 refine Qb<|Q2 ⟨k+1,(out++kyL B),l,by omega,rfl,F,hK,(by omega),rfl⟩ (by omega) ?_
 exact wp [(8,13),(9,12)] ⟨rfl,(Qe (by first | rfl | simp)),rfl,trivial⟩
 have H:=ab A
 refine w5 ?_
 refine AC.wk (Wk.nilS 14 6 9 .str rfl (Fresh.of rfl) (nlr rfl))<|Qd ?_
 have a4:(false:Bool)=((trV c d f).2):=by
  exact congrArg Prod.snd (QyE ‹SgOk c› F ‹_› (by omega))
 exact fi_ [(0,14)] N ⟨(Qe (by exact congrArg Prod.fst (QyE ‹SgOk c› F ‹_› (by omega)))),trivial⟩ (h0:=by rw[← a4] <;> rfl)
 refine w7 ?_
 refine lc (QcO (q:=12) rfl (Qa rfl) rfl rfl rfl rfl)<|AL.wk (Qox (q:=12) rfl rfl) ?_
 refine w6 ?_
 refine lc (dBs 15 (e:= .str) Va) ?_
 refine lc (dA 16 Js (hb:=by (have h1:=QwC hB; have h2:=QsR (B:=B); simp only[ae,aj,aA]; omega))) ?_
 refine w_ ?_
 refine Qb<|Q2 ⟨(z1++z2),(B++[z]),rfl,(Qcg hB hz),rfl⟩ (by rw[W]; simp only[ae]; have K:=congrArg List.length hz; simp only[ae,aj] at K; omega) ?_
 exact wp [(13,16)] ⟨rfl,rfl,(QuK (by first | rfl | simp)),(Qe (Qzr)),trivial⟩
 refine w7 ?_
 refine lc (QcO (q:=9) rfl (Qa rfl) rfl rfl rfl rfl)<|AL.wk (Qox (q:=9) rfl rfl) ?_
 refine w9 ?_
 refine lc (dG 17 (Qf6 c q.2 d ‹_›) QmV) ?_
 refine QdS true (q:=17) KU (Qa rfl) rfl rfl fun a1=> ?_
 refine w2 ?_
 refine QL (fun r t=>∃(R:DLv) (i:List (ByteArray×List Int)) (E:DLv),r=R.length∧((E++R).Perm (afV c q.2 d))∧(NxI c d (Vm c d D q E) i)∧t=⟨[(1,lI d),(3,lP 0 0),(8,lR 8),(9,lR 9),(10,lR 18),(11,lf (dS q.1)),(12,lf (.dat QA q.2)),(40,lI f),(41,lI (k:Int)),(42,lB true),(44,lR 9),(45,lf (.val s)),(46,PV.tup [(false,[dB true]),(false,[.val Y]),(false,[.val a2])]),(47,lB true),(48,PV.tup [(false,[dS q.1]),(false,[.dat QA q.2])]),(49,lf (dS q.1)),(50,lf (.dat QA q.2)),(51,ag [.dat Ql c.1, .dat Qm c.2.1, .dat Qu c.2.2]),(52,lf (.dat QA q.2)),(53,lI d),(54,lR 17),(55,lf (.val a1))],[bx 0 27 [.dat Ql c.1, .dat Qm c.2.1, .dat Qu c.2.2],ar 8 9 .str out,(9,some (.res (itR (vFz QA) .str false j (q1++q2) none s))),(17,some (.res (itR (vOw 3 .int) .str true (afV c q.2 d) R none a1))),(18,some (.mp false .str false QA i))]⟩) ⟨afV c q.2 d,l,[],rfl,(du _),(QxT hN),rfl⟩ ?_ ?_
 exact wp [(18,12)] ⟨rfl,rfl,rfl,(QuK (by first | rfl | simp)),rfl,trivial⟩
 rintro r t ⟨R,i,E,X,I,hM,rfl⟩
 refine w_ ?_
 refine Qir (q:=17) (Qa rfl) rfl (.inr rfl) rfl (fun C=> ?_) (fun a8 b0 p1 p p2 C=> ?_)
 refine w4 ?_
 refine Qiy<|Q2 ⟨(q1++q2),i,(D++[q]),rfl,(Qcg hD J),(Qwy hM I C),rfl⟩ (by rw[V]; simp only[ae]; have K:=congrArg List.length J; simp only[ae,aj] at K; omega) ?_
 exact wp [(12,18)] ⟨rfl,rfl,(QuK (by first | rfl | simp)),rfl,trivial⟩
 refine w7 ?_
 refine lc (Qjx (q:=17) 19 rfl (Qa rfl) rfl rfl rfl (Fresh.of rfl) (nlr rfl)) ?_
 refine w5 ?_
 apply dV (i3 61 _ _ _ (io 64 (lf (dS (q.1++p.1))) :: i2 65 _ _ [⟨some 67,lR 20,[ar 20 3 .int (ofG ltI p.2),(19,none)]⟩,io 68 (lI d),io 69 (lf (.dat QA (clV c d (ofG ltI p.2)))),⟨none,lf (.val undef),[(18,some (.mp false .str false QA (Y2 .str i (q.1++p.1) (clV c d (ofG ltI p.2)))))]⟩])) [0,1,3,1,15,31,31,127,15,0]
 refine z3 ?_
 refine zz (fun _ o=>ac (Zn (o.v rfl) (o.v rfl) rfl (by (have h1:=Qu7 ‹SgOk c› hL (Hv hD J); have h2:=Qvp ‹SgOk c› (Hv I C); omega))) rfl) ?_
 refine z2 ?_
 refine zz (fun _ o=>ac (dP 20 [(0,19)] (KW p.2 (by have:=Qwk ‹SgOk c› (Hv I C); omega)) H7) rfl) ?_
 refine z_ ?_
 refine zz (fun _ o=>ac (QcL 21 (Jz c (ofG ltI p.2) d ‹_› (Qtj ‹SgOk c› (Hv I C))) Qem ⟨_,_,rfl,(Ev.b (o.w rfl)),⟨_,_,rfl,(Qb5 (o.v rfl) (o.en 20 rfl)),⟨_,_,rfl,(Ev.b (o.w rfl)),rfl⟩⟩⟩ rfl (o.fr 21 rfl) (nlr rfl)) rfl)<|zz (fun _ o=>ac (JO Qnp KU (o.v rfl) (o.n 18 rfl) (o.w rfl) (p:=q.1++p.1) rfl (o.w rfl) (u:=clV c d (ofG ltI p.2)) rfl) rfl) ?_
 exact zN
 refine Q2 ⟨(p1++p2),(Y2 .str i (q.1++p.1) (clV c d (ofG ltI p.2))),(E++[p]),rfl,(Qcg I C),(Qvv ‹SgOk c› hL hM hD J I C),rfl⟩ (by rw[X]; simp only[ae]; have K:=congrArg List.length C; simp only[ae,aj] at K; omega) ?_
 exact wp [] ⟨rfl,rfl,rfl,(QuK (by first | rfl | simp)),(Qpz (by first | rfl | simp)),trivial⟩
section
variable {a b:Q5}[∀s,Decidable (StgOk s)][∀c,Decidable (SgOk c)]{m:Int}
end
end Go.Proofs.YtgpdhgadmjfokaaGreat
namespace Go.Proofs.YtgpdhgadmjfokaaGreat
open Go.RowKit
set_option maxRecDepth 100000
set_option maxHeartbeats 4000000
def StX (c:DSg)(s:ByteArray)(p q:PSt)(l:Zb):Prop:=
 (ZV s p=true∧l=((c.1.length:Int),decide (bAt s p.1=43))∧q=(p.1, !p.2))∨∃a∈c.2.2,a.1=p.1∧YI s p a=false∧l=(a.2.1,a.2.2.1)∧q=(a.2.2.2,p.2)
def tlX (c:DSg)(s:ByteArray)(p:PSt):List (Zb×PSt):=
 (if ZV s p=true then [(((c.1.length:Int),decide (bAt s p.1=43)),(p.1, !p.2))] else [])++((Yf c.2.2 p.1).filter fun a=> !YI s p a).map fun a=>((a.2.1,a.2.2.1),(a.2.2.2,p.2))
def arX (c:DSg)(k:Int)(st:Ins)(x:Zb×PSt):Ins:=Kt c st k x.1 x.2
section
variable {c:DSg}{s name:ByteArray}{st st':Ins}{ps r:List PSt}{p q:PSt}{k:Int}{l:Zb}{i j n f:Nat}{L:List DAr}{T:List (Zb×PSt)}
theorem QnL {x:Zb×PSt}:x∈tlX c s p↔StX c s p x.2 x.1:=by
 unfold tlX StX
 rw[aE,aR]
 constructor
 ·rintro (h | ⟨a,t,rfl⟩)
  ·split at h
   ·rename_i m; rw[aB] at h; subst h; exact .inl ⟨m,rfl,rfl⟩
   ·cases h
  ·obtain ⟨b,d⟩:=bO.1 t
   obtain ⟨e,g⟩:=Jq.1 b
   exact .inr ⟨a,e,g,by simpa using d,rfl,rfl⟩
 ·obtain ⟨l,q⟩:=x
  rintro (⟨m,b,d⟩ | ⟨a,b,d,e,g,o⟩)
  ·left; rw[if_pos m,aB]; exact dH b d
  ·exact .inr ⟨a,bO.2 ⟨Jq.2 ⟨b,d⟩,by rw[e]; rfl⟩,(dH g o).symm⟩
theorem QdV:∀(L:List DAr) {st:Ins},L.foldl (Jf c s k p) st=((L.filter fun a=> !YI s p a).map fun a=>(((a.2.1,a.2.2.1),(a.2.2.2,p.2)):Zb×PSt)).foldl (arX c k) st
 | [],_=>rfl
 | a :: L,st=>by
  rw[aT,de]
  cases h:YI s p a with
  | true=>rw[XA h]; exact QdV L
  | false=>rw[Wt h]; exact QdV L
theorem QqZ (h:st.1[k.toNat]? =some p):WN c s st k=(tlX c s p).foldl (arX c k) st:=by
 rw[QhL h,QdV]
 unfold tlX
 rw[bm]
 cases a:ZV s p with
 | true=>rw[QbC a]; rfl
 | false=>rw[QfQ a]; rfl
theorem Quo:∃r,psP ps p=ps++r:=by
 unfold psP
 split
 ·exact ⟨[],(bq _).symm⟩
 ·exact ⟨[p],rfl⟩
theorem QwU:p∈psP ps p:=by
 unfold psP
 split
 ·assumption
 ·simp
theorem QnG (h:p∈ps):ixP (ps++r) p=ixP ps p:=by unfold ixP; rw[List.idxOf_append,if_pos h]
theorem QuH:ixP (psP ps p) p=ixP ps p:=by
 unfold psP
 split
 ·rfl
 ·rename_i h
  unfold ixP
  rw[List.idxOf_append,if_neg h,List.idxOf_eq_length h]; simp
theorem Qd6:∀(T:List (Zb×PSt)) {st:Ins},(∃r,(T.foldl (arX c k) st).1=st.1++r)∧(∀x∈T,x.2∈(T.foldl (arX c k) st).1)∧(T.foldl (arX c k) st).2.2=st.2.2++T.map fun x=>(k,x.1.1,x.1.2,ixP (T.foldl (arX c k) st).1 x.2)
 | [],st=>⟨⟨[],(bq _).symm⟩,(fun x a=>by cases a),(bq _).symm⟩
 | x :: T,st=>by
  obtain ⟨⟨r,b⟩,h,m⟩:=Qd6 T (st:=arX c k st x)
  obtain ⟨t,o⟩:=Quo (ps:=st.1) (p:=x.2)
  have a:x.2∈(arX c k st x).1:=QwU
  have d:x.2∈(T.foldl (arX c k) (arX c k st x)).1:=by rw[b]; exact aG _ a
  rw[aT]
  refine ⟨⟨t++r,by rw[b,← aP]; exact congrArg (· ++r) o⟩,fun y e=> ?_, ?_⟩
  ·rcases aD.1 e with rfl | e
   ·exact d
   ·exact h y e
  ·have g:ixP st.1 x.2=ixP (T.foldl (arX c k) (arX c k st x)).1 x.2:=by
    rw[b,QnG a]
    exact QuH.symm
   rw[m,be]
   show (st.2.2++[(k,x.1.1,x.1.2,ixP st.1 x.2)])++_=_
   rw[aP,g]; rfl
structure BuI (c:DSg) (s:ByteArray) (k:Nat) (st:Ins):Prop where
  nd:st.1.Nodup
  zero:st.1[0]? =some (0,VY s)
  arc:∀e∈st.2.2,∃i p q l,i < k∧st.1[i]? =some p∧q∈st.1∧StX c s p q l∧e=((i:Int),l.1,l.2,ixP st.1 q)
  all:∀i p q l,i < k→st.1[i]? =some p→StX c s p q l→q∈st.1∧((i:Int),l.1,l.2,ixP st.1 q)∈st.2.2
theorem BuI.start:BuI c s 0 (WV c s):=⟨QiA bI,rfl,(fun e a=>by cases a),fun i _ _ _ b=>absurd b (bi _)⟩
theorem QsS:∀(T:List (Zb×PSt)) {st:Ins},st.1.Nodup→(T.foldl (arX c k) st).1.Nodup
 | [],_,h=>h
 | _ :: T,_,h=>QsS T (QiA h)
theorem BuI.step (g:BuI c s n st)(J:n < st.1.length):BuI c s (n+1) (WN c s st (n:Int)):=by
 obtain ⟨p,y⟩:∃z,st.1[n]? =some z:=⟨_,ak J⟩
 have A:st.1[((n:Nat):Int).toNat]? =some p:=y
 rw[QqZ A]
 obtain ⟨⟨r,v⟩,F,w⟩:=Qd6 (c:=c) (k:=(n:Int)) (tlX c s p) (st:=st)
 have a:∀{i:Nat} {x:PSt},st.1[i]? =some x→((tlX c s p).foldl (arX c (n:Int)) st).1[i]? =some x:=fun {i x} h=>by
  rw[v,ba (ai.1 h).1]; exact h
 have d:∀{i:Nat} {x:PSt},i < n+1→((tlX c s p).foldl (arX c (n:Int)) st).1[i]? =some x→st.1[i]? =some x:=fun {i x} G h=>by
  rwa [v,ba (by omega)] at h
 have u:∀{x:PSt},x∈st.1→ixP ((tlX c s p).foldl (arX c (n:Int)) st).1 x=ixP st.1 x:=fun b=>by rw[v,QnG b]
 have t:∀{x:PSt},x∈st.1→x∈((tlX c s p).foldl (arX c (n:Int)) st).1:=fun b=>by rw[v]; exact aG _ b
 refine ⟨QsS _ g.nd,a g.zero,fun e o=> ?_,fun i E q l G B H=> ?_⟩
 ·rw[w] at o
  rcases aE.1 o with o | o
  ·obtain ⟨i,E,q,l,C,D,I,K,M⟩:=g.arc e o
   exact ⟨i,E,q,l,by omega,a D,t I,K,by rw[u I]; exact M⟩
  ·obtain ⟨x,b,rfl⟩:=aR.1 o
   exact ⟨n,p,x.2,x.1,Nat.lt_succ_self _,a y,F x b,QnL.1 b,rfl⟩
 ·have m:=d G B
  by_cases e:i=n
  ·subst e
   rw[y] at m; cases m
   have b:(l,q)∈tlX c s p:=QnL.2 H
   exact ⟨F _ b,by rw[w]; exact aN _ (aR.2 ⟨_,b,rfl⟩)⟩
  ·obtain ⟨C,D⟩:=g.all i E q l (by omega) m H
   exact ⟨t C,by rw[w,u C]; exact aG _ D⟩
theorem Qjm (b:SignsOk c s):∀(f:Nat) {k:Nat} {st:Ins},InsI c st→k+f=601→k≤st.1.length→BuI c s k st→BuI c s (Qd9 c s f k st).1.length (Qd9 c s f k st)
 | 0,k,st,hi,e,hk,g=>by have:=hi.few b.2.2.some_.2; omega
 | f+1,k,st,hi,e,hk,g=>by
  by_cases h:k < st.1.length
  ·rw[Qh1 h rfl]
   have m:k+1≤(WN c s st (k:Int)).1.length:=by
    obtain ⟨p,o⟩:∃z,st.1[k]? =some z:=⟨_,ak h⟩
    have a:st.1[((k:Nat):Int).toNat]? =some p:=o
    rw[QqZ a]
    obtain ⟨⟨r,d⟩,_,_⟩:=Qd6 (c:=c) (k:=(k:Int)) (tlX c s p) (st:=st)
    rw[d,ae]; omega
   exact Qjm b f (Jx b hi).1 (by omega) m (g.step h)
  ·rw[Yt (by omega)]
   have:k=st.1.length:=by omega
   rwa [this] at g
theorem QgQ (a:SignsOk c s):BuI c s (QR c s).1.length (QR c s):=Qjm a 601 (Qb8 a.2.2.some_.1) (bV _) (aS _) BuI.start
def Cns (s:ByteArray)(p:PSt):Prop:=(bAt s p.1=48→p.2=false)∧(bAt s p.1=49→p.2=true)
theorem Qo3:Cns s (0,VY s):=by
 unfold Cns VY
 constructor
 ·intro h; dsimp only at h ⊢; rw[h]; decide
 ·intro h; dsimp only at h ⊢; rw[h]; decide
def Sn (x:UInt8):Prop:=x=48∨x=43∨x=49∨x=45
theorem QkM {a:DAr}(e:a.1=p.1)(h:Y9 (bAt s a.1) (bAt s a.2.2.2)=true)(b:Sn (bAt s a.1))(d:Sn (bAt s a.2.2.2))(g:Cns s p):(YI s p a=false∧Cns s (a.2.2.2,p.2))∨(ZV s p=true∧YI s (p.1, !p.2) a=false∧Cns s (a.2.2.2, !p.2)):=by
 obtain ⟨o,v⟩:=p
 dsimp only at e g ⊢
 subst e
 obtain ⟨c1,c2⟩:=g
 dsimp only at c1 c2
 unfold YI ZV ZS Cns
 dsimp only
 rcases b with b | b | b | b <;> rcases d with d | d | d | d <;> rw[b,d] at h <;> (try (exfalso; revert h; decide)) <;> cases v <;> simp[b,d] at c1 c2 ⊢
end
end Go.Proofs.YtgpdhgadmjfokaaGreat
namespace Go.Proofs.YtgpdhgadmjfokaaGreat
open Go.RowKit
set_option maxRecDepth 100000
set_option maxHeartbeats 4000000
section
variable {c x:DSg}{s name t:ByteArray}{st:Ins}{ps:List PSt}{p q:PSt}{u v:Int}{n i:Nat}{a:DAr}
theorem QnE (h:q∈ps):ps[(ixP ps q).toNat]? =some q:=by
 unfold ixP
 rw[cM,ak (List.idxOf_lt_length_of_mem h),List.getElem_idxOf]
theorem QsD (e:SgOk c)(d:a∈c.2.2):a.2.1 < (c.1.length:Int):=by
 rcases (e.arcs a d).2.2.1 with b | b
 ·omega
 ·have:=b.1; omega
theorem Qrv {b:DAr}(h:SgOk c)(g:a∈c.2.2)(f:¬a.2.1= -1)(d:b.2.1=a.2.1)(e:b.2.2.1=a.2.2.1):wdA (Xs c name st) b=wdA c a:=by
 have j:=JY h g f
 unfold wdA Xs
 rw[d,e]
 dsimp only
 rw[ba (by omega)]
theorem Qv9 (F:SignsOk c s)(k:Tr (Xs c name (QR c s)) (c.1.length:Int) n t u):∃p,(QR c s).1[u.toNat]? =some p∧Tr c (-1) n t p.1:=by
 have g:=QgQ F
 have f:∀{a:DAr} {p:PSt},a∈(QR c s).2.2→(QR c s).1[a.1.toNat]? =some p→∃q l,(QR c s).1[a.2.2.2.toNat]? =some q∧StX c s p q l∧a.2.1=l.1∧a.2.2.1=l.2:=fun {a p} J b=>by
  obtain ⟨i,M,q,l,z,r,d,A,rfl⟩:=g.arc a J
  have b:(QR c s).1[((i:Nat):Int).toNat]? =some p:=b
  rw[cM,r] at b
  cases b
  exact ⟨q,l,QnE d,A,rfl,rfl⟩
 induction k with
 | zero=>exact ⟨_,g.zero, .zero⟩
 | still I C D G=>
  obtain ⟨p,b,y⟩:=G
  obtain ⟨q,l,z,r,d,A⟩:=f C b
  refine ⟨q,z, ?_⟩
  rcases r with ⟨_,_,rfl⟩ | ⟨h,j,B,H,w,rfl⟩
  ·exact y
  ·have m:h.2.1= -1:=by
    have o:l.1=h.2.1:=by rw[w]
    have:=QsD F.2.2 j
    rcases QcR.1 D with e | e
    ·rw[← o,← d]; exact e
    ·rw[d,o] at e; omega
   exact .still (by rw[B]; exact y) j (QcR.2 (.inl m))
 | word I C D G=>
  obtain ⟨p,b,y⟩:=G
  obtain ⟨q,l,z,r,d,A⟩:=f C b
  refine ⟨q,z, ?_⟩
  obtain ⟨K,L⟩:=QcY.1 D
  rcases r with ⟨_,e,_⟩ | ⟨h,j,B,H,w,rfl⟩
  ·exact absurd (by rw[d,e]) L
  ·have o:l.1=h.2.1:=by rw[w]
   have E:l.2=h.2.2.1:=by rw[w]
   have m:¬h.2.1= -1:=fun e=>K (by rw[d,o,e])
   rw[Qrv F.2.2 j m (d.trans o) (A.trans E)]
   exact .word (by rw[B]; exact y) j (QcY.2 ⟨m,m⟩)
theorem QvL (d:SignsOk c s){z:Int}(h0:0≤z∧z < (s.size:Int)):Sn (bAt s z):=by
 obtain ⟨x,b⟩:∃x,s[z.toNat]? =some x:=⟨_,dx s z.toNat (by omega)⟩
 rw[Qv b]
 exact d.1 x (ah (Hx b))
theorem Qsk (z:SignsOk c s)(T:Xg c s=true)(k:Tr c (-1) n t v):∃u p,(QR c s).1[u.toNat]? =some p∧p.1=v∧Cns s p∧Tr (Xs c name (QR c s)) (c.1.length:Int) n t u:=by
 have g:=QgQ z
 have U:∀{i:Nat} {p:PSt},(QR c s).1[i]? =some p→i < (QR c s).1.length:=fun h=>(ai.1 h).1
 have F:∀{u:Int} {p q:PSt} {l:Zb},0≤u→(QR c s).1[u.toNat]? =some p→StX c s p q l→(QR c s).1[(ixP (QR c s).1 q).toNat]? =some q∧(u,l.1,l.2,ixP (QR c s).1 q)∈(Xs c name (QR c s)).2.2:=fun {u p q l} o j d=>by
  obtain ⟨m,f⟩:=g.all u.toNat p q l (U j) j d
  rw[show ((u.toNat:Nat):Int)=u by omega] at f
  exact ⟨QnE m,f⟩
 suffices H:∃u p,0≤u∧(QR c s).1[u.toNat]? =some p∧p.1=v∧Cns s p∧Tr (Xs c name (QR c s)) (c.1.length:Int) n t u by
  obtain ⟨u,p,_,j,d,w,E⟩:=H; exact ⟨u,p,j,d,w,E⟩
 have Q:∀{n:Nat} {t:ByteArray} {u:Int} {p:PSt} {a:DAr},0≤u→(QR c s).1[u.toNat]? =some p→p.1=a.1→Cns s p→Tr (Xs c name (QR c s)) (c.1.length:Int) n t u→a∈c.2.2→
  ∃A y,0≤A∧(QR c s).1[A.toNat]? =some y∧y.1=a.1∧YI s y a=false∧Cns s (a.2.2.2,y.2)∧Tr (Xs c name (QR c s)) (c.1.length:Int) n t A:=fun {n t u p a} o j d w E P=>by
  have r:=z.at_ P
  have S:=au.1 T a P
  rcases QkM d.symm S (QvL z r.1) (QvL z r.2) w with ⟨m,f⟩ | ⟨m,f,B⟩
  ·exact ⟨u,p,o,j,d,m,f,E⟩
  ·obtain ⟨C,D⟩:=F o j (.inl ⟨m,rfl,rfl⟩)
   refine ⟨_,_,QhC.1,C,d,f,B, ?_⟩
   exact Tr.still E D (QcR.2 (.inr rfl))
 induction k with
 | zero=>exact ⟨0,_,Int.le_refl _,g.zero,rfl,Qo3, .zero⟩
 | still j d w G=>
  obtain ⟨u,p,o,m,f,B,O⟩:=G
  obtain ⟨A,y,I,J,K,L,M,N⟩:=Q o m f B O d
  obtain ⟨C,D⟩:=F I J (.inr ⟨_,d,K.symm,L,rfl,rfl⟩)
  exact ⟨_,_,QhC.1,C,rfl,M,Tr.still N D (QcR.2 (.inl ((QcR.1 w).elim id id)))⟩
 | word j d w G=>
  rename_i a
  obtain ⟨u,p,o,m,f,B,O⟩:=G
  obtain ⟨A,y,I,J,K,L,M,N⟩:=Q o m f B O d
  obtain ⟨C,D⟩:=F I J (.inr ⟨_,d,K.symm,L,rfl,rfl⟩)
  have R:=(QcY.1 w).1
  have V:¬a.2.1=(c.1.length:Int):=by have:=QsD z.2.2 d; omega
  have:=Tr.word N D (QcY.2 ⟨R,V⟩)
  have e:=Qrv (name:=name) (st:=QR c s) (b:=(A,((a.2.1,a.2.2.1):Zb).1,((a.2.1,a.2.2.1):Zb).2,ixP (QR c s).1 (a.2.2.2,y.2))) z.2.2 d R rfl rfl
  rw[e] at this
  exact ⟨_,_,QhC.1,C,rfl,M,this⟩
theorem Qr3 (b:SignsOk c s)(d:Xg c s=true):(∃u,Tr (Xs c name (QR c s)) (c.1.length:Int) n t u)↔∃v,Tr c (-1) n t v:=
 ⟨fun ⟨_,k⟩=>by obtain ⟨p,_,h⟩:=Qv9 b k; exact ⟨p.1,h⟩,fun ⟨_,k⟩=>by obtain ⟨u,_,_,_,_,h⟩:=Qsk (name:=name) b d k; exact ⟨u,h⟩⟩
theorem Qt0 (d:SignsOk c s)(e:Xg c s=true)(f:SgOk (Xs c name (QR c s))):txL (Xs c name (QR c s)) (c.1.length:Int) n=txL c (-1) n:=
 Wx.ext (Hq Wx n) (Hq Wx n) fun t=>by
  rw[KL f n,KL d.2.2 n]
  exact ⟨fun ⟨m,b,k⟩=>⟨m,b,(Qr3 d e).1 k⟩,fun ⟨m,b,k⟩=>⟨m,b,(Qr3 d e).2 k⟩⟩
theorem Qvl [∀c,Decidable (SgOk c)](b:SignsOk c s)(j:Xg c s=true)(d:SgOk (Xs c name (QR c s))):trV (Xs c name (QR c s)) (c.1.length:Int) 4=trV c (-1) 4:=by
 have f:QmG (Xs c name (QR c s)) (c.1.length:Int) 4:=⟨d,⟨by omega,by unfold Xs; simp⟩,by decide⟩
 have h:QmG c (-1) 4:=⟨b.2.2,⟨by decide,by omega⟩,by decide⟩
 have e:=Qt0 (name:=name) (n:=(4:Int).toNat) b j d
 unfold trV
 rw[e]
 by_cases k:(txL c (-1) (4:Int).toNat).length≤400
 ·rw[if_pos ⟨f,k⟩,if_pos ⟨h,k⟩]
 ·rw[if_neg fun g=>k g.2,if_neg fun g=>k g.2]
end
end Go.Proofs.YtgpdhgadmjfokaaGreat
namespace Go.Proofs.YtgpdhgadmjfokaaGreat
open Go.RowKit
structure Opens (t t':Ty) (E:TypeId) (e:Ty) where
  sub:t.Den→Hdr→t'.Den
  get:t'.Den→Hdr
  put:t'.Den→List e.Den→t.Den
  val:t.Den→List e.Den
  wd:t'.wd=t.wd
  h1:∀x z,get (sub x z)=z
  h2:∀x z,put (sub x z) (val x)=x
  own:∀{w:World} {fp:List Nat} {cs:List Value} {x:t.Den},Own t w fp cs x→∃z fg fi,fp.Perm (fg++fi)∧Own t' w fg cs (sub x z)∧Own (.sl E e) w fi [hdV z] (val x)
@[reducible] def QaB (E:TypeId) (e:Ty):Opens (.sl E e) .vl E e where
 sub:=fun _ z=>z
 get:=fun z=>z
 put:=fun _ y=>y
 val:=fun x=>x
 wd:=rfl
 h1:=fun _ _=>rfl
 h2:=fun _ _=>rfl
 own:=fun h=>by
  obtain ⟨z,rfl⟩:=QdT h
  exact ⟨z,[],_,du _,⟨rfl,rfl⟩,h⟩
@[reducible] def VO (a:Ty) {b b':Ty} {E:TypeId} {e:Ty} (o:Opens b b' E e):Opens (.pr a b) (.pr a b') E e where
 sub:=fun x z=>(x.1,o.sub x.2 z)
 get:=fun y=>o.get y.2
 put:=fun y l=>(y.1,o.put y.2 l)
 val:=fun x=>o.val x.2
 wd:=by show a.wd+b'.wd=a.wd+b.wd; rw[o.wd]
 h1:=fun x z=>o.h1 x.2 z
 h2:=fun x z=>dH rfl (o.h2 x.2 z)
 own:=fun h=>by
  obtain ⟨f1,f2,l,r,rfl,rfl,k1,k2⟩:=h
  obtain ⟨z,fg,fi,p,q1,q2⟩:=o.own k2
  exact ⟨z,f1++fg,fi,by rw[aP]; exact p.append_left f1,⟨f1,fg,l,r,rfl,rfl,k1,q1⟩,q2⟩
@[reducible] def QgP (b:Ty) {a a':Ty} {E:TypeId} {e:Ty} (o:Opens a a' E e):Opens (.pr a b) (.pr a' b) E e where
 sub:=fun x z=>(o.sub x.1 z,x.2)
 get:=fun y=>o.get y.1
 put:=fun y l=>(o.put y.1 l,y.2)
 val:=fun x=>o.val x.1
 wd:=by show a'.wd+b.wd=a.wd+b.wd; rw[o.wd]
 h1:=fun x z=>o.h1 x.1 z
 h2:=fun x z=>dH (o.h2 x.1 z) rfl
 own:=fun h=>by
  obtain ⟨f1,f2,l,r,rfl,rfl,k1,k2⟩:=h
  obtain ⟨z,fg,fi,p,q1,q2⟩:=o.own k1
  refine ⟨z,fg++f2,fi,(p.append_right f2).trans ?_,⟨fg,f2,l,r,rfl,rfl,q1,k2⟩,q2⟩
  rw[aP,aP]
  exact (List.perm_append_comm).append_left fg
section
variable {t t' e:Ty}{E E':TypeId}{w:World}
theorem Opens.list (o:Opens t t' E' e):∀{xs:List t.Den} {fp:List Nat} {cs:List Value},OwnL (Own t w) fp cs xs→
 ∃(ys:List t'.Den) (f i:List Nat),fp.Perm (f++i)∧ys.length=xs.length∧OwnL (Own t' w) f cs ys∧OwnL (Own (.sl E' e) w) i ((ys.map o.get).map hdV) ((ys.map o.get).map (rdF E' e w))∧(ys.map fun y=>o.put y (rdF E' e w (o.get y)))=xs
 | [],fp,cs,h=>⟨[],[],[],by rw[h.1]; exact du _,rfl,⟨rfl,h.2⟩,⟨rfl,rfl⟩,rfl⟩
 | x :: xs,fp,cs,h=>by
  obtain ⟨B,C,c1,c2,rfl,rfl,l,m⟩:=h
  obtain ⟨z,a,b,v,k,j⟩:=o.own l
  obtain ⟨ys,f,i,p,n,q,r,u⟩:=Opens.list o m
  refine ⟨o.sub x z :: ys,a++f,b++i,(v.append p).trans ?_,by rw[aj,n,aj],⟨a,f,c1,c2,rfl,rfl,k,q⟩, ?_, ?_⟩
  ·rw[aP,aP]
   exact List.Perm.append_left a (List.perm_append_comm_assoc b f i)
  ·rw[be,o.h1]
   exact ⟨b,i,[hdV z],_,rfl,rfl,by rw[Qew j.rep]; exact j,r⟩
  ·rw[be,u,o.h1,Qew j.rep,o.h2]
theorem Opens.arr (o:Opens t t' E' e){xs:List t.Den}{fp:List Nat}{v:Value}(h:Own (.sl E t) w fp [v] xs):
 ∃(ys:List t'.Den) (f:Hdr→List e.Den) (a b:List Nat),fp.Perm (a++b)∧Own (.sl E t') w a [v] ys∧OwnL (Own (.sl E' e) w) b ((ys.map o.get).map hdV) ((ys.map o.get).map f)∧(ys.map fun y=>o.put y (f (o.get y)))=xs∧f none=[]:=by
 rcases h with ⟨rfl,h,rfl⟩ | ⟨g,i,j,fps,rfl,l,m,n,q,r,u⟩
 ·exact ⟨[],fun _=>[],[],[],du _, .inl ⟨rfl,h,rfl⟩,⟨rfl,rfl⟩,rfl,rfl⟩
 ·obtain ⟨ys,a,b,p,k,z,B,C⟩:=o.list u
  refine ⟨ys,rdF E' e w,g :: a,b,p.cons g, .inr ⟨g,i,j,a,rfl,by rw[k]; exact l,m,by rw[k]; exact n,q,by rw[o.wd]; exact r, ?_⟩,B,C,Qew (x:=[]) (Own.rep (fp:=[]) (.inl ⟨rfl,rfl,rfl⟩))⟩
  rw[k,o.wd]; exact z
end
section
variable {A:Amb}{P:Program}{s:St}{Q:Exit→St→Prop}{c:Code}
theorem R.openS {q:Nat}(p:Nat){t t' e:Ty}{E E':TypeId}(o:Opens t t' E' e){xs:List t.Den}{a:Act}{w:World}(he:s.tab.ent q=some (.arr E t xs))(H:Fresh s p)(hk:A.k0≤p)(r:R A s a w):
 ∃(ys:List t'.Den) (f:Hdr→List e.Den),(ys.map fun y=>o.put y (f (o.get y)))=xs∧f none=[]∧R A ⟨s.tm,(p,some (.pl true (.sl E' e) (none :: ys.map o.get) f)) :: (q,some (.arr E t' ys)) :: s.tab⟩ a w:=by
 obtain ⟨v,r⟩:=r
 have J:s.tab.al q:=⟨_,he⟩
 have M:q≠p:=fun h=>H.al (h▸J)
 have hO:Own (.sl E t) w (v.f q) [v.h q] xs:=r.cx.en q _ he
 obtain ⟨ys,f,G,F,Y,h2,h3,h4,h5⟩:=o.arr hO
 have Z:(G++F).Nodup:=Y.nodup_iff.1 (r.cx.nd q J)
 obtain ⟨n1,n2,n3⟩:=aV.1 Z
 have mg:∀g∈G,g∈v.f q:=fun g j=>Y.mem_iff.2 (aG _ j)
 have mi:∀g∈F,g∈v.f q:=fun g j=>Y.mem_iff.2 (aN _ j)
 have l:∀u,Tab.al ((p,some (.pl true (.sl E' e) (none :: ys.map o.get) f)) :: (q,some (.arr E t' ys)) :: s.tab) u→u=p∨(u≠p∧s.tab.al u):=fun u ⟨x,m⟩=>by
  by_cases b:u=p
  ·exact .inl b
  ·refine .inr ⟨b, ?_⟩
   rw[Qf,if_neg b,Qf] at m
   by_cases i:u=q
   ·rw[i]; exact J
   ·rw[if_neg i] at m; exact ⟨_,m⟩
 let k:Gh:=⟨fun u=>if u=p then .slice none 0 0 else v.h u,fun u=>if u=p then F else if u=q then G else v.f u,v.N⟩
 have V:k.f q=G:=by show (if q=p then F else if q=q then G else v.f q)=G; rw[if_neg M,if_pos rfl]
 have I:k.f p=F:=if_pos rfl
 have U:∀u,u≠p→u≠q→k.f u=v.f u:=fun u b i=>by show (if u=p then F else if u=q then G else v.f u)=_; rw[if_neg b,if_neg i]
 have W:∀u,u≠p→k.h u=v.h u:=fun u b=>if_neg b
 have D:∀u,u≠p→∀g∈k.f u,g∈v.f u:=fun u b g j=>by
  by_cases i:u=q
  ·rw[i,V] at j; rw[i]; exact mg g j
  ·rwa [U u b i] at j
 have K:∀u,u≠p→s.tab.al u→∀g∈k.f u,g∉F:=fun u b n g j L=>by
  by_cases i:u=q
  ·rw[i,V] at j; exact n3 g j g L rfl
  ·rw[U u b i] at j; exact r.cx.dj u q n J i g j (mi g L)
 refine ⟨ys,f,h4,h5,k,r.step ⟨fun u x m=> ?_,fun u S C O hn g j z=> ?_,fun u C=> ?_,fun u C g j B=> ?_,r.cx.nl⟩ (fun u C=> ?_) (fun g h=>⟨h,rfl⟩) (Q9 w) (fun _ _ _=>rfl) (fun g B=> .inl B) fun u C g j=> ?_⟩
 ·rw[Qf] at m
  by_cases b:u=p
  ·rw[if_pos b] at m
   cases m
   rw[b]
   refine ⟨if_pos rfl, ?_⟩
   rw[I]; exact ⟨[],F,[hdV none],_,rfl,rfl,by rw[h5]; exact .inl ⟨rfl,rfl,rfl⟩,h3⟩
  ·rw[if_neg b,Qf] at m
   by_cases i:u=q
   ·rw[if_pos i] at m
    cases m
    show Own (.sl E t') w (k.f u) [k.h u] ys
    rw[i,V,W q M]
    exact h2
   ·rw[if_neg i] at m
    refine (r.cx.en u x m).mono (fun r' a0 ha=> ?_) (fun g h=>⟨h,rfl⟩) (W u b) (U u b i) fun _ _=>rfl
    have e3:r'≠p:=fun h=>H.en u x m (h▸a0)
    rcases l r' ha with h | ⟨_,h⟩
    ·exact absurd h e3
    ·exact ⟨h,W r' e3⟩
 ·rcases l u C with b | ⟨b,n⟩
  ·rcases l S O with i | ⟨i,X⟩
   ·exact hn (b.trans i.symm)
   ·rw[b,I] at j; exact K S i X g z j
  ·rcases l S O with i | ⟨i,X⟩
   ·rw[i,I] at z; exact K u b n g j z
   ·exact r.cx.dj u S n X hn g (D u b g j) (D S i g z)
 ·rcases l u C with b | ⟨b,n⟩
  ·rw[b,I]; exact n2
  ·by_cases i:u=q
   ·rw[i,V]; exact n1
   ·rw[U u b i]; exact r.cx.nd u n
 ·rcases l u C with b | ⟨b,n⟩
  ·rw[b,I] at j; exact r.cx.no q J g (mi g j) B
  ·exact r.cx.no u n g (D u b g j) B
 ·rcases l u C with b | ⟨b,n⟩
  ·rw[b]; exact .inr ⟨H,hk⟩
  ·exact .inl ⟨n,W u b,fun _=>rfl⟩
 ·rcases l u C with b | ⟨b,n⟩
  ·rw[b,I] at j; exact .inr ⟨q,J,mi g j⟩
  ·exact .inr ⟨u,n,D u b g j⟩
theorem AC.openS {q:Nat}(p:Nat){t t' e:Ty}{E E':TypeId}(o:Opens t t' E' e){xs:List t.Den}(j:s.tab.ent q=some (.arr E t xs))(b:Fresh s p)(l:A.k0≤p)
 (k:∀(ys:List t'.Den) (vs:List Hdr) (f:Hdr→List e.Den),vs=none :: ys.map o.get→f none=[]→(ys.map fun y=>o.put y (f (o.get y)))=xs→AC A P c Q ⟨s.tm,(p,some (.pl true (.sl E' e) vs f)) :: (q,some (.arr E t' ys)) :: s.tab⟩):AC A P c Q s:=fun a w r=>by
 obtain ⟨ys,f,h,i,m⟩:=R.openS p o j b l r
 exact k ys _ f rfl i h a w m
theorem Rg.take (t:Nat){p:Nat}{E:TypeId}{e:Ty}{vs:List Hdr}{f:Hdr→List e.Den}{z:Hdr}{gh:Gh}{a:Act}{w:World}(U:s.tab.ent p=some (.pl true (.sl E e) vs f))(hz:z∈vs)(B:Fresh s t)(hk:A.k0≤t)(r:Rg A s gh a w):
 ∃gh':Gh,gh'.h t=hdV z∧(∀u,u≠t→gh'.h u=gh.h u)∧Rg A ⟨s.tm,(t,some (.arr E e (f z))) :: (p,none) :: s.tab⟩ gh' a w:=by
 have n:s.tab.al p:=⟨_,U⟩
 have a0:t≠p:=fun h=>B.al (h▸n)
 obtain ⟨_,h3⟩:=r.cx.en p _ U
 obtain ⟨G,X,m2⟩:=QfT (List.singleton_sublist.2 hz) h3
 obtain ⟨f1,Z,c1,c2,b,j,V,W⟩:=m2
 have I:Z=[]:=W.1
 have Y:c2=[]:=W.2
 rw[I,bq] at b
 rw[Y,bq] at j
 subst b
 rw[← j] at V
 have hO:Own (.sl E e) w G [hdV z] (f z):=V
 have K:∀g∈G,g∈gh.f p:=fun g i=>X.subset i
 have nv:G.Nodup:=X.nodup (r.cx.nd p n)
 have k:∀u,Tab.al ((t,some (.arr E e (f z))) :: (p,none) :: s.tab) u→u=t∨(u≠t∧u≠p∧s.tab.al u):=fun u ⟨x,l⟩=>by
  by_cases b:u=t
  ·exact .inl b
  ·rw[Qf,if_neg b,Qf] at l
   by_cases j:u=p
   ·rw[if_pos j] at l; cases l
   ·rw[if_neg j] at l; exact .inr ⟨b,j,_,l⟩
 let gh':Gh:=⟨fun u=>if u=t then hdV z else gh.h u,fun u=>if u=t then G else gh.f u,gh.N⟩
 have C:gh'.f t=G:=if_pos rfl
 have y:∀u,u≠t→gh'.f u=gh.f u:=fun u b=>if_neg b
 have J:∀u,u≠t→gh'.h u=gh.h u:=fun u b=>if_neg b
 refine ⟨gh',if_pos rfl,J,r.step ⟨fun u x l=> ?_,fun u D v H S g i m=> ?_,fun u v=> ?_,fun u v g i q=> ?_,r.cx.nl⟩ (fun u v=> ?_) (fun g h=>⟨h,rfl⟩) (Q9 w) (fun _ _ _=>rfl) (fun g q=> .inl q) fun u v g i=> ?_⟩
 ·rw[Qf] at l
  by_cases b:u=t
  ·rw[if_pos b] at l
   cases l
   show Own (.sl E e) w (gh'.f u) [gh'.h u] (f z)
   rw[b,C,show gh'.h t=hdV z from if_pos rfl]
   exact hO
  ·rw[if_neg b,Qf] at l
   by_cases j:u=p
   ·rw[if_pos j] at l; cases l
   ·rw[if_neg j] at l
    refine (r.cx.en u x l).mono (fun O M ha=> ?_) (fun g h=>⟨h,rfl⟩) (J u b) (y u b) fun _ _=>rfl
    have I:O≠t:=fun h=>B.en u x l (h▸M)
    rcases k O ha with h | ⟨_,_,h⟩
    ·exact absurd h I
    ·exact ⟨h,J O I⟩
 ·rcases k u v with b | ⟨b,F,o⟩
  ·rcases k D H with j | ⟨j,R,L⟩
   ·exact S (b.trans j.symm)
   ·rw[b,C] at i; rw[y D j] at m; exact r.cx.dj p D n L (fun h=>R h.symm) g (K g i) m
  ·rcases k D H with j | ⟨j,R,L⟩
   ·rw[j,C] at m; rw[y u b] at i; exact r.cx.dj p u n o (fun h=>F h.symm) g (K g m) i
   ·rw[y u b] at i; rw[y D j] at m; exact r.cx.dj u D o L S g i m
 ·rcases k u v with b | ⟨b,F,o⟩
  ·rw[b,C]; exact nv
  ·rw[y u b]; exact r.cx.nd u o
 ·rcases k u v with b | ⟨b,F,o⟩
  ·rw[b,C] at i; exact r.cx.no p n g (K g i) q
  ·rw[y u b] at i; exact r.cx.no u o g i q
 ·rcases k u v with b | ⟨b,F,o⟩
  ·rw[b]; exact .inr ⟨B,hk⟩
  ·exact .inl ⟨o,J u b,fun _=>rfl⟩
 ·rcases k u v with b | ⟨b,F,o⟩
  ·rw[b,C] at i; exact .inr ⟨p,n,K g i⟩
  ·rw[y u b] at i; exact .inr ⟨u,o,i⟩
theorem Qex (t:Nat){p v off:Nat}{E' E:TypeId}{e:Ty}{cs:List LV}{vs:List Hdr}{f:Hdr→List e.Den}{z:Hdr}(hv:s.tab.ent v=some (.box E' cs))(S:cs[off]? =some (.dat .vl z))(B:s.tab.ent p=some (.pl true (.sl E e) vs f))(V:z∈vs)(k:Fresh s t)(O:A.k0≤t):
 Wk A s ⟨s.tm,(v,some (.box E' (splice cs off [.ref t]))) :: (t,some (.arr E e (f z))) :: (p,none) :: s.tab⟩:=fun a w r=>by
 obtain ⟨W,r⟩:=r
 have n:v≠t:=fun h=>k.al ⟨_,h▸hv⟩
 have o:v≠p:=fun h=>by rw[h,B] at hv; cases hv
 obtain ⟨j,U,X,C⟩:=Rg.take t B V k O r
 have l:Tab.ent ((t,some (.arr E e (f z))) :: (p,none) :: s.tab) v=some (.box E' cs):=by rw[Qf,if_neg n,Qf,if_neg o]; exact hv
 obtain ⟨g,b,D,F,G,q⟩:=C.cx.en v _ l
 obtain ⟨u,H,I⟩:=q.nth S
 have J:Rd j.N .vl w [u] z:=I
 have K:[u]=[hdV z]:=J.rep
 have L:u=hdV z:=by simpa using K
 have M:LVs (Tab.al ((t,some (.arr E e (f z))) :: (p,none) :: s.tab)) j w [.ref t] [u]:=⟨u,[],rfl,fun _=>by rw[U,L],rfl⟩
 have y:=q.splice M (off:=off)
 have i:b.toList.take off++[u]++b.toList.drop (off+[u].length)=b.toList:=by
  obtain ⟨R,m⟩:=ai.1 H
  conv=>rhs; rw[← bW (off+1) b.toList,bM R,m]
  rfl
 rw[i] at y
 exact ⟨_,C.mod l (Q9 w) (fun _ _ _=>rfl) ⟨g,b,D,F,G,y⟩⟩
end
section
variable {A:Amb}{P:Program}{s:St}{d:Nat}{ty T:TypeId}{pos:String}{af:Array Edge}{g:Option (Nat×Bool)}{x:Operand}
theorem Qgn {p:Nat}{E:TypeId}{e:Ty}{vs:List Hdr}{f:Hdr→List e.Den}{z:Hdr}(y:Evl A s x (.dat .vl z))(v:s.tab.ent p=some (.pl true (.sl E e) vs f))(C:z∈vs)(u:Nat.blt d A.n=true)(h:P.underlying T=some (.slice E)):
 Does A P ⟨some d, .call ⟨.builtin .len, #[x], #[T]⟩,ty,pos,af,g⟩ s (s.put d (lf (dI (f z).length))):=
 Qk rfl u fun b a w r=>by
  have j:Rd b.N .vl w [a.eval x] z:=y b a w r
  have k:[a.eval x]=[hdV z]:=j.rep
  obtain ⟨_,l⟩:=r.cx.en p _ v
  obtain ⟨D,i,_⟩:=Qbd l z C
  rw[← k] at i
  obtain ⟨B,c,m,F,o⟩:=i.rep.slv
  have q:P.elem T=E:=by simp[Program.elem,h]
  refine ⟨.int .i64 (f z).length, ?_,_,rfl,Ye (by unfold maxLen at o; omega)⟩
  simp only[execOp,resolve,invoke,builtin]
  simp[ay,m,run_len_slice w T ty B (f z).length c (by rw[q]; exact h),goInt]
def ThP (s:St):List LV→List LV→Prop
 | [],ls'=>ls'=[]
 | l :: ls,ls'=>∃l' r,ls'=l' :: r∧(l=l'∨(∃q E e xs,l= .ref q∧s.tab.ent q=some (.arr E e xs)∧l'= .dat (.sl E e) xs)∨∃(p:Nat) (E:TypeId) (e:Ty) (vs:List Hdr) (f:Hdr→List e.Den) (z:Hdr),l= .dat .vl z∧s.tab.ent p=some (.pl true (.sl E e) vs f)∧z∈vs∧l'= .dat (.sl E e) (f z))∧ThP s ls r
theorem LVs.thp {gh:Gh}{a:Act}{w:World}(r:Rg A s gh a w){ls ls':List LV}{vs:List Value}(h:LVs s.tab.al gh w ls vs)(k:ThP s ls ls'):LVs (fun _=>False) ⟨gh.h,gh.f,fun g=>g < w.heap.size⟩ w ls' vs:=by
 induction ls generalizing ls' vs with
 | nil=>rw[show ls'=[] from k]; exact h
 | cons l ls C=>
  obtain ⟨v,m,rfl,i,o⟩:=h
  obtain ⟨I,J,rfl,u,y⟩:=k
  refine ⟨v,m,rfl, ?_,C o y⟩
  rcases u with rfl | ⟨q,E,e,xs,rfl,h5,rfl⟩ | ⟨p,E,e,us,f,z,rfl,h5,h6,rfl⟩
  ·exact i.mono (fun _ _ h=>h.elim) fun g b=>⟨r.cx.nl g b,rfl⟩
  ·have B:v=gh.h q:=i ⟨_,h5⟩
   have n:Own (.sl E e) w (gh.f q) [gh.h q] xs:=r.cx.en q _ h5
   rw[B]
   exact n.rd fun g b=>Own.lt n g b
  ·have D:Rd gh.N .vl w [v] z:=i
   have F:[v]=[hdV z]:=D.rep
   obtain ⟨_,G⟩:=r.cx.en p _ h5
   obtain ⟨H,j,_⟩:=Qbd G z h6
   rw[← F] at j
   exact j.rd fun g b=>Own.lt j g b
theorem Qxy {b:Bool}{ls ls':List LV}(h:Ev A s x (b,ls))(k:ThP s ls ls'):EvB A s x (b,ls'):=fun p a w r=>by
 have n:=h p a w r
 cases b with
 | true=>obtain ⟨o,f,i⟩:=n; exact ⟨o,f,i.thp r k⟩
 | false=>
  obtain ⟨l,f,i⟩:=n
  have f:ls=[l]:=f
  subst f
  obtain ⟨m,y,rfl,q,j⟩:=k
  have j:y=[]:=j
  subst j
  obtain ⟨B,z,u,v,_⟩:=LVs.thp r (ls:=[l]) (vs:=[a.eval x]) ⟨_,[],rfl,i,rfl⟩ (ls':=[m]) ⟨m,[],rfl,q,rfl⟩
  cases u
  exact ⟨m,rfl,v⟩
end
def QwX:List LV→List LV→Prop
 | [],cs'=>cs'=[]
 | l :: ls,cs'=>∃l' r,cs'=l' :: r∧(l=l'∨(l= .val (.slice none 0 0)∧l'= .dat .vl none))∧QwX ls r
theorem LVs.vls {al:Nat→Prop}{gh:Gh}{w:World}:∀{ls ls':List LV} {vs:List Value},LVs al gh w ls vs→QwX ls ls'→LVs al gh w ls' vs
 | [],_,_,h,k=>by rw[show _=[] from k]; exact h
 | l :: ls,_,_,⟨v,vs',h1,h2,h3⟩,⟨l',r,k1,k2,k3⟩=>by
  rw[k1]
  refine ⟨v,vs',h1, ?_,h3.vls k3⟩
  rcases k2 with rfl | ⟨rfl,rfl⟩
  ·exact h2
  ·have a:v= .slice none 0 0:=h2
   rw[a]
   exact Rep.rd0 (t:= .vl) (w:=w) (show _=_ from rfl) rfl
theorem Quk {A:Amb}{s:St}{p:Nat}{E':TypeId}{cs:List LV}(b:List LV)(h:s.tab.ent p=some (.box E' cs))(k:QwX cs b):Wk A s ⟨s.tm,(p,some (.box E' b)) :: s.tab⟩:=fun a w r=>by
 obtain ⟨i,r⟩:=r
 obtain ⟨g,f,j,l,m,n⟩:=r.cx.en p _ h
 exact ⟨i,r.mod h (Q9 w) (fun _ _ _=>rfl) ⟨g,f,j,l,m,n.vls k⟩⟩
end Go.Proofs.YtgpdhgadmjfokaaGreat
namespace Go.Proofs.YtgpdhgadmjfokaaGreat
open Go.RowKit
@[reducible] def Ex {X:Type} (Q:X→Prop) (pv:X→PV) (T:X→Tab):PV→Tab→Prop:=fun p T'=>∃x,Q x∧p=pv x∧T'=T x
section
variable {A:Amb}{P:Program}{s:St}{f:FuncId}{xs:List Operand}{tys:Array TypeId}{args:List (Bool×List LV)}{d:Nat}{ty:TypeId}{pos:String}{af:Array Edge}{g:Option (Nat×Bool)}{T:Tab}{k:Nat}
  {X:Type} {Qx:X→Prop} {pv:X→PV} {T':X→Tab} {ops:Array Oper} {l:List Oper} {Q:Exit→St→Prop}
theorem DoesT.callX (n:Nat)(ρ:List (Nat×Nat))(O:FC P f args T k (Ex Qx pv T'))(L:Qh P f)(N:EvL A s xs (args.map fun c=>(c.1,c.2.map (LV.ren (rn ρ)))))(B:HasE s ρ T)
 (m:(WR (T.map fun p=>rn ρ p.1)&&Nat.blt d A.n)=true) (hB:∀x,(YD (pv x) (T' x)&&WR ((T' x).map fun p=>sg ρ k n p.1)&&QjS T (T' x) k)=true) (hfr:∀x,FrK s n k (ZN (T' x))) (hk0:A.k0≤n):
 DoesT A P ⟨some d, .call ⟨.value (.func f),xs.toArray,tys⟩,ty,pos,af,g⟩ s (fun s'=>∃x,Qx x∧s'=s.backP d (sg ρ k n) (T.map fun p=>rn ρ p.1) (pv x) (T' x)):=fun a w K Q r M=>by
 obtain ⟨G,r⟩:=r
 rw[aL] at m
 obtain ⟨m,S⟩:=m
 have b:∀q,T.al q→s.tab.al (rn ρ q):=fun q ⟨e,h⟩=>⟨_,B.get h⟩
 have o:∀q j,T.al q→T.al j→rn ρ q=rn ρ j→q=j:=fun q j u i h=>JW m u i h
 have y:Cx T (G.via (rn ρ)) w:=⟨fun q e h=>(EntR.ren.1 (r.cx.en _ _ (B.get h))).mono (fun Y _ J=>⟨b Y J,rfl⟩) (fun g C=>⟨C,rfl⟩) rfl rfl fun _ _=>rfl,
  fun q j u i F=>r.cx.dj _ _ (b q u) (b j i) fun h=>F (o q j u i h),fun q h=>r.cx.nd _ (b q h),fun q h=>r.cx.no _ (b q h),r.cx.nl⟩
 have V:=(CmsR.ren.1 (N.cms r)).mono (al':=T.al) (gh':=G.via (rn ρ)) (w':=w) (fun q _ h=>⟨b q h,rfl⟩) fun g C=>⟨C,rfl⟩
 refine Hi L rfl (Calls.mono (O _ w _ y V) fun e Z R=> ?_)
 obtain ⟨v,W,T2,z,rfl,⟨x,t,rfl,rfl⟩,H,U,I,E⟩:=R
 have i:=hB x
 simp only[aL] at i
 refine M _ _ _ ⟨x,t,rfl⟩ (Qkj n ρ r B m i.1.1 i.1.2 (fun q ⟨e,t⟩ D=> ?_) (fun q ⟨e,t⟩ D=>(hfr x).get q (Zv t).1 D) hk0 S H U I E)
 have:=au.1 i.2 q (Zv t).1
 rw[show Nat.blt q k=true from cO D] at this
 exact bg.1 (by simpa using this)
theorem Wv (n:Nat)(ρ:List (Nat×Nat))(j:FC P f args T k (Ex Qx pv T'))(a:Qh P f)(i:EvL A s xs (args.map fun c=>(c.1,c.2.map (LV.ren (rn ρ)))))(b:HasE s ρ T)
 (hi:(WR (T.map fun p=>rn ρ p.1)&&Nat.blt d A.n)=true) (hB:∀x,(YD (pv x) (T' x)&&WR ((T' x).map fun p=>sg ρ k n p.1)&&QjS T (T' x) k)=true) (hfr:∀x,FrK s n k (ZN (T' x))) (hk0:A.k0≤n)
 (h:∀x,Qx x→AL A P ops l Q (s.backP d (sg ρ k n) (T.map fun p=>rn ρ p.1) (pv x) (T' x))):AL A P ops (⟨some d, .call ⟨.value (.func f),xs.toArray,tys⟩,ty,pos,af,none⟩ :: l) Q s:=
 Qjd rfl (DoesT.callX n ρ j a i b hi hB hfr hk0) fun o ⟨x,m,e⟩=>e▸h x m
theorem Zu {fn:Func}{s:St}(x:X)(ρ:List (Nat×Nat)){a:PV}(i:Qx x)(b:Res A P fn s a)(h0:a=(pv x).ren (rn ρ))(c:HasE ⟨[],s.tab⟩ ρ (T' x))(e:WR ((T' x).map fun x=>rn ρ x.1)=true)(h:idB ρ k=true):fin A P fn (Qav (Ex Qx pv T') k) .ret s:=
 QdB (pv x) (T' x) ρ (h0▸b) c e h ⟨x,i,rfl,rfl⟩
end
section
variable {A:Amb}{P:Program}{s:St}{f:FuncId}{xs:List Operand}{tys:Array TypeId}{args:List (Bool×List LV)}{d:Nat}{ty T:TypeId}{pos:String}{af:Array Edge}{g:Option (Nat×Bool)}
  {X:Type} {Qx:X→Prop} {pv:X→PV} {ops:Array Oper} {l:List Oper} {Q:Exit→St→Prop} {x:Operand}
theorem QgI (j:FC P f args [] 0 (Ex Qx pv (fun _=>[])))(e:Qh P f)(i:EvLB A s xs args)(b:∀x,(pv x).tags=[])(m:∀x,(pv x).fl=true)(o:Nat.blt d A.n=true)
 (h:∀x,Qx x→AL A P ops l Q (s.put d (pv x))):AL A P ops (⟨some d, .call ⟨.value (.func f),xs.toArray,tys⟩,ty,pos,af,none⟩ :: l) Q s:=by
 refine Qjd rfl (Uy A.k0 j e i ?_ ?_ ?_ (aO _) o) fun r c=> ?_
 ·rintro p T ⟨y,_,rfl,rfl⟩; simp[YD,b y,ZN]
 ·rintro p T ⟨y,_,rfl,rfl⟩; simp[m y,Tab.fl]
 ·rintro p T ⟨y,_,rfl,rfl⟩ q a; exact absurd a (Z6 q)
 ·obtain ⟨p,T,⟨y,a,rfl,rfl⟩,rfl⟩:=c
  have:=h y a
  rw[St.back,PV.ren_id (b y)]
  exact this
theorem FC.lens {E:TypeId}{e:Ty}{zs:List e.Den}(h:FC P f args [] 0 (Q7 (lf (.dat (.sl E e) zs)))):FC P f args [] 0 (Ex (fun v:Value=>∃B c,v= .slice B zs.length c∧zs.length≤maxLen) (fun v=>lf (.val v)) (fun _=>[])):=fun n w D j r=>
 Calls.mono (h n w D j r) fun G F t=>by
  obtain ⟨v,C,T',a,rfl,⟨rfl,rfl⟩,b,z,m,y⟩:=t
  obtain ⟨u,i,o⟩:=z
  simp only[aJ,and_true] at i
  subst i
  have p:Rd a.N (.sl E e) F [v] zs:=o
  obtain ⟨B,c,q,H,I⟩:=p.rep.slv
  exact ⟨v,_,[],a,rfl,⟨v,⟨B,c,q,by omega⟩,rfl,rfl⟩,b,⟨_,rfl,rfl⟩,m,y⟩
theorem Qg6 {v:Value}{n:Nat}{E:TypeId}(p:Evl A s x (.val v))(hv:∃B c,v= .slice B n c∧n≤maxLen)(o:Nat.blt d A.n=true)(b:P.underlying T=some (.slice E)):
 Does A P ⟨some d, .call ⟨.builtin .len, #[x], #[T]⟩,ty,pos,af,g⟩ s (s.put d (lf (dI n))):=
 Qk rfl o fun e a w r=>by
  obtain ⟨B,c,i,j⟩:=hv
  have h:a.eval x=v:=p e a w r
  have m:P.elem T=E:=by simp[Program.elem,b]
  refine ⟨.int .i64 n, ?_,_,rfl,Ye (by unfold maxLen at j; omega)⟩
  simp only[execOp,resolve,invoke,builtin]
  simp[ay,h,i,run_len_slice w T ty B n c (by rw[m]; exact b),goInt]
end
end Go.Proofs.YtgpdhgadmjfokaaGreat
