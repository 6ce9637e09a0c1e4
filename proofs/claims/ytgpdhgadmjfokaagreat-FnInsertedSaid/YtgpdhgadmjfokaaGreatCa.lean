/- The traces of a state graph: what the walk of the program needs. Plain law. -/
import Derived.Test.YtgpdhgadmjfokaaGreatEd
import Derived.Test.YtgpdhgadmjfokaaGreatBn
import Derived.Test.YtgpdhgadmjfokaaGreatWw
import Derived.Test.YtgpdhgadmjfokaaGreatUb
import Derived.Test.YtgpdhgadmjfokaaGreatWk
import Derived.Test.YtgpdhgadmjfokaaGreatVc
import Derived.Test.YtgpdhgadmjfokaaGreatAx
set_option linter.unusedSimpArgs false
set_option linter.unusedVariables false
set_option linter.unusedSectionVars false
namespace Go.Proofs.YtgpdhgadmjfokaaGreat
open Go.RowKit
set_option maxRecDepth 100000
set_option maxHeartbeats 4000000
section
variable {c:DSg}{h:Int}{n k i j:Nat}{S set:List Int}{a:DAr}{rs as_:List DAr}{out:List Int}{s t:ByteArray}{u v:Int}{K M A D E L L1 L2:DLv}{p q:ByteArray×List Int}
theorem Qph (m:S.Nodup)(b:∀u∈S,0≤u∧u < (n:Int)):S.length≤n:=by
 have d:(S.map Int.toNat).Nodup:=by
  unfold List.Nodup
  rw[cr]
  exact List.Pairwise.imp_of_mem (fun g l h e=>h (by have:=b _ g; have:=b _ l; omega)) m
 have f:(S.map Int.toNat) ⊆ List.range n:=fun x r=>by
  obtain ⟨u,o,rfl⟩:=aR.1 r
  have:=b u o
  exact cU.2 (by omega)
 have:=UM d f
 rwa [aE,List.length_range] at this
def clV (c:DSg)(h:Int)(S:List Int):List Int:=clL c.2.2 h 301 0 S
@[reducible] def Rng (c:DSg) (S:List Int):Prop:=S.Nodup∧∀u∈S,0≤u∧u < (c.2.1.length:Int)
theorem QrU (f:SgOk c)(e:Rng c S)(k:Ch c.2.2 h (fun v=>v∈S) v):0≤v∧v < (c.2.1.length:Int):=by
 induction k with
 | base b=>exact e.2 _ b
 | step _ d _ _=>exact Qe2 f d
theorem Qkr (b:SgOk c)(d:Rng c S)(g:ClI c.2.2 h (fun v=>v∈S) k out):out.length≤300:=by
 have:=Qph g.nod fun u e=>QrU b d (g.ch u e)
 have:=b.some_; omega
theorem QqK (b:clL rs h (301 - k) k out=S)(d:out[k]? =some u)(e:k < 301):clL rs h (301 - (k+1)) (k+1) (clA rs h u out)=S:=by
 rw[show 301 - k=(301 - (k+1))+1 by omega,clL,d] at b; exact b
theorem QrG (b:clL rs h (301 - k) k out=S)(g:out.length≤k):out=S:=by
 have e:out[k]? =none:=bu g
 cases d:301 - k with
 | zero=>rw[d] at b; exact b
 | succ f=>rw[d,clL,e] at b; exact b
theorem QnH (d:SgOk c)(b:Rng c S):∀(f:Nat) {k:Nat} {out:List Int},k+f=301→ClI c.2.2 h (fun v=>v∈S) k out→(∀v,v∈clL c.2.2 h f k out↔Ch c.2.2 h (fun v=>v∈S) v)∧(clL c.2.2 h f k out).Nodup
 | 0,k,out,e,g=>by have m:=g.le; have o:=Qkr d b g; omega
 | f+1,k,out,e,g=>by
  rw[clL]
  cases l:out[k]? with
  | none=>exact ⟨g.end_ (List.getElem?_eq_none_iff.1 l),g.nod⟩
  | some u=>exact QnH d b f (by omega) (g.step l)
theorem Qou (d:SgOk c)(b:Rng c S):(∀v,v∈clV c h S↔Ch c.2.2 h (fun v=>v∈S) v)∧(clV c h S).Nodup:=QnH d b 301 (bL _) (ClI.zero b.1 fun _=>Iff.rfl)
theorem Qus (b:out[k]? =some u)(d:(clA as_ h u out)[k]? =some v):v=u:=by
 obtain ⟨r,e⟩:=Hk (as_:=as_) (h:=h) (u:=u) (S:=out)
 rw[e,bc (ae.1 b).1,b] at d
 cases d; rfl
theorem Quc:out.length≤(clA as_ h u out).length:=by
 obtain ⟨r,b⟩:=Hk (as_:=as_) (h:=h) (u:=u) (S:=out)
 rw[b,ah]; omega
theorem Qss:(clA as_ h u out).length≤out.length+as_.length:=by
 unfold clA
 induction as_ generalizing out with
 | nil=>exact aM _
 | cons a l b=>
  rw[ba]
  split
  ·have:=b (out:=out++[a.2.2.2]); simp only[ah,ap,aD] at this ⊢; omega
  ·have:=b (out:=out); simp only[ap]; omega
theorem JT (b:rs[i]? =some a):clA (rs.take (i+1)) h u out=if a.1=u∧inv h a=true∧¬a.2.2.2∈clA (rs.take i) h u out then clA (rs.take i) h u out++[a.2.2.2] else clA (rs.take i) h u out:=by
 rw[QI b]; unfold clA
 rw[bE]; rfl
theorem QhH {l:List Int}(k:(l.any fun y=>decide (v=y))=false):¬v∈l:=fun b=>by
 have:=cI.1 k v b
 simp at this
theorem QoF {l:List Int}(k:(l.any fun y=>decide (v=y))=true):v∈l:=by
 obtain ⟨y,b,e⟩:=bY.1 k
 rw[ab e]; exact b
theorem QeL (f:rs[i]? =some a)(b:a.1=u)(d:a.2.1= -1)(e:((clA (rs.take i) h u out).any fun y=>decide (a.2.2.2=y))=false):clA (rs.take i) h u out++[a.2.2.2]=clA (rs.take (i+1)) h u out:=by rw[JT f,if_pos ⟨b,QaP.2 (.inl d),QhH e⟩]
theorem Qef (f:rs[i]? =some a)(b:a.1=u)(d:a.2.1=h)(e:((clA (rs.take i) h u out).any fun y=>decide (a.2.2.2=y))=false):clA (rs.take i) h u out++[a.2.2.2]=clA (rs.take (i+1)) h u out:=by rw[JT f,if_pos ⟨b,QaP.2 (.inr d),QhH e⟩]
theorem Qeo (d:rs[i]? =some a)(b:¬a.1=u):clA (rs.take i) h u out=clA (rs.take (i+1)) h u out:=by rw[JT d,if_neg (fun g=>b g.1)]
theorem Qd7 (e:rs[i]? =some a)(b:¬a.2.1= -1)(d:¬a.2.1=h):clA (rs.take i) h u out=clA (rs.take (i+1)) h u out:=by rw[JT e,if_neg (fun g=>(QaP.1 g.2.1).elim b d)]
theorem QdW (d:rs[i]? =some a)(b:((clA (rs.take i) h u out).any fun y=>decide (a.2.2.2=y))=true):clA (rs.take i) h u out=clA (rs.take (i+1)) h u out:=by rw[JT d,if_neg (fun g=>g.2.2 (QoF b))]
def edT (ss:List QB)(l:Int×Bool):ByteArray:=if l.1 < 0 then ⟨#[126]⟩ else ((ss[l.1.toNat]?).getD (ByteArray.empty,0)).1++sgB l.2
theorem Qt0 (b:0≤a.2.1):edT c.1 (a.2.1,a.2.2.1)=wdA c a:=by unfold edT; rw[if_neg (by dsimp only; omega)]; rfl
def afT (c:DSg)(S:List Int)(h:Int)(i:Nat):DLv:=(c.2.2.take i).foldl (afS c S h) []
theorem QkU (hi:c.2.2.length≤i):afT c S h i=afV c S h:=by unfold afT afV; rw[bq hi]
theorem HI (b:c.2.2[i]? =some a):afT c S h (i+1)=afS c S h (afT c S h i) a:=by unfold afT; rw[QI b,bE]; rfl
theorem QpB (f:c.2.2[i]? =some a)(e:(S.any fun y=>decide (a.1=y))=true)(b:¬a.2.1= -1)(d:¬a.2.1=h)(h0:0≤a.2.1):Yx .str (afT c S h i) (edT c.1 (a.2.1,a.2.2.1)) (((ZH .str (afT c S h i) (edT c.1 (a.2.1,a.2.2.1))).getD [])++[a.2.2.2])=afT c S h (i+1):=by
 rw[HI f,Qt0 h0,afS,if_pos ⟨QoF e,QaM.2 ⟨b,d⟩⟩]
theorem Qki (d:c.2.2[i]? =some a)(b:(S.any fun y=>decide (a.1=y))=false):afT c S h i=afT c S h (i+1):=by rw[HI d,afS,if_neg fun g=>QhH b g.1]
theorem Qj8 (d:c.2.2[i]? =some a)(b:a.2.1= -1):afT c S h i=afT c S h (i+1):=by rw[HI d,afS,if_neg fun g=>(QaM.1 g.2).1 b]
theorem Qj2 (d:c.2.2[i]? =some a)(b:a.2.1=h):afT c S h i=afT c S h (i+1):=by rw[HI d,afS,if_neg fun g=>(QaM.1 g.2).2 b]
theorem QpT (g:∀z,((ZH .str A z).getD []).length≤n):∀z,((ZH .str (afS c S h A a) z).getD []).length≤n+1:=fun z=>by
 unfold afS
 split
 ·rw[WM]
  split
  ·have:=g (wdA c a); simp only[ak,ah,ap,aD]; omega
  ·have:=g z; omega
 ·have:=g z; omega
theorem Qk1:∀(l:List DAr) {n:Nat} {A:DLv},(∀z,((ZH .str A z).getD []).length≤n)→∀z,((ZH .str (l.foldl (afS c S h) A) z).getD []).length≤n+l.length
 | [],_,_,g=>g
 | a :: l,n,_,g=>fun z=>by
  have:=Qk1 l (QpT (c:=c) (S:=S) (h:=h) (a:=a) g) z
  simp only[ba,ap] at this ⊢; omega
theorem Qnl (z:ByteArray):((ZH .str (afT c S h i) z).getD []).length≤i:=by
 have:=Qk1 (c:=c) (S:=S) (h:=h) (c.2.2.take i) (n:=0) (A:=[]) (fun z=>aM _) z
 simp only[au] at this
 unfold afT; omega
theorem QrN (l:SgOk c)(f:p∈afV c S h):p.2.length≤4000:=by
 have g:=Qaa (c:=c) (h:=h) (S:=S)
 obtain ⟨j,e⟩:=aJ.1 f
 have d:=Vh (k:= .str) g.nod e rfl
 have b:=Qnl (c:=c) (S:=S) (h:=h) (i:=c.2.2.length) p.1
 rw[QkU (aM _),d] at b
 have:=l.few
 simp only[ak] at b; omega
theorem Qpx (e:SgOk c)(d:p∈afV c S h):Rng c (ofG ltI p.2):=by
 refine ⟨Qaj (Qby Xo _),fun u f=> ?_⟩
 obtain ⟨a,b,_,_,_,rfl⟩:=(((Qaa (c:=c) (h:=h) (S:=S)).mem p d).2 u).1 ((Ur Xo _).1 f)
 exact Qe2 e b
theorem Qq4 (d:SgOk c)(b:p∈afV c S h):p.1.size≤7:=by
 have g:=(Qaa (c:=c) (h:=h) (S:=S)).mem p b
 obtain ⟨v,f⟩:=g.1
 obtain ⟨a,_,_,_,e,_⟩:=(g.2 v).1 f
 rw[← e]; exact Qgn d
theorem Qhd (b:SgOk c):Rng c [0]:=⟨by simp,fun u d=>by rw[az] at d; have:=b.some_; omega⟩
theorem QmV (e:SgOk c):Lev c h 0 [(ByteArray.empty,clV c h [0])]:=by
 have g:=(Qou (h:=h) e (Qhd e)).1
 have b:∀v,v∈clV c h [0]↔Ch c.2.2 h (fun v=>v=0) v:=fun v=>(g v).trans (Ch.congr fun v=>az)
 refine ⟨co ..,fun p d=> ?_,fun t u f=>⟨_,az.2 rfl,(Us.1 f).1.symm⟩⟩
 rw[az] at d; subst d
 exact ⟨⟨0,(b 0).2 (.base rfl)⟩,fun u=>(b u).trans ⟨fun k=>Us.2 ⟨rfl,k⟩,fun k=>(Us.1 k).2⟩⟩
theorem H1 (g:(D++L).Perm K)(e:L=L1++q :: L2):((D++[q])++(L1++L2)).Perm K:=by
 subst e
 refine List.Perm.trans ?_ g
 rw[aO]
 refine List.Perm.append_left _ ?_
 exact (List.perm_middle (a:=q) (l₁:=L1) (l₂:=L2)).symm
theorem KJ (g:(D++L).Perm K)(e:L=L1++q :: L2):q∈K:=g.mem_iff.1 (by rw[e]; simp)
theorem QkX (g:(D++L).Perm K):∀x∈D,x∈K:=fun x b=>g.mem_iff.1 (aH _ b)
theorem QkQ (g:(D++L).Perm K)(d:K.Pairwise fun p q=>p.1≠q.1)(e:L=L1++q :: L2):∀x∈D,x.1≠q.1:=fun x f=>by
 have b:=g.symm.pairwise d fun h e=>h e.symm
 exact (List.pairwise_append.1 b).2.2 x f q (by rw[e]; simp)
theorem QbU (g:(D++L).Perm K)(e:L=[]):D.Perm K:=by rw[e,bp] at g; exact g
theorem QpK (g:D.Perm K):Vs c h D s v↔Vs c h K s v:=by
 unfold Vs
 exact ⟨fun ⟨q,b,k⟩=>⟨q,g.mem_iff.1 b,k⟩,fun ⟨q,b,k⟩=>⟨q,g.mem_iff.2 b,k⟩⟩
theorem QqY:Vm c h D q (E++[p]) s v↔Vm c h D q E s v∨(s=q.1++p.1∧v∈p.2):=by
 unfold Vm
 constructor
 ·rintro (k | ⟨x,b,k⟩)
  ·exact .inl (.inl k)
  ·rcases aA.1 b with b | b
   ·exact .inl (.inr ⟨x,b,k⟩)
   ·rw[az] at b; subst b; exact .inr k
 ·rintro ((k | ⟨x,b,k⟩) | k)
  ·exact .inl k
  ·exact .inr ⟨x,aH _ b,k⟩
  ·exact .inr ⟨p,aN _ (az.2 rfl),k⟩
theorem Qqe:NxI c h (Vs c h []) []:=NxI.zero.congr fun s v=>by simp[Vs]
theorem Qux (g:NxI c h (Vs c h D) M):NxI c h (Vm c h D q []) M:=g.congr fun _ _=>QqC.symm
theorem QqB (f:SgOk c)(r:Lev c h n K)(g:NxI c h (Vm c h D q E) M)(b:(D++L).Perm K)(m:L=L1++q :: L2){R w x:DLv}(d:(E++R).Perm (afV c q.2 h))(l:R=w++p :: x):NxI c h (Vm c h D q (E++[p])) (Yx .str M (q.1++p.1) (clV c h (ofG ltI p.2))):=by
 have o:=Qaa (c:=c) (h:=h) (S:=q.2)
 have e:=KJ d l
 refine (g.step (W:=fun v=>v∈p.2) (Qsi f r (QkX b) (KJ b m) (QkQ b r.nod m) (QkX d) e (QkQ d o.nod l)) (fun u=>((Qou f (Qpx f e)).1 u).trans (Ch.congr fun v=>Ur Xo _)) ((o.mem p e).1)).congr fun s v=>QqY.symm
theorem QrH (g:NxI c h (Vm c h D q E) M){R:DLv}(b:(E++R).Perm (afV c q.2 h))(e:R=[]):NxI c h (Vs c h (D++[q])) M:=g.congr fun _ _=>QsS fun _=>(QbU b e).mem_iff
theorem QrF (f:Lev c h n K)(g:NxI c h (Vs c h D) M)(d:(D++L).Perm K)(e:L=[]):Lev c h (n+1) M:=by
 have b:NxI c h (Vs c h K) M:=g.congr fun _ _=>QpK (QbU d e)
 exact f.next b.nod b.mem b.all
theorem QpH (e:SgOk c)(b:Lev c h n K)(d:q∈K):q.1.size≤7*n:=by
 obtain ⟨u,f⟩:=(b.mem q d).1
 exact QpE e (((b.mem q d).2 u).1 f)
theorem Qsy (b:SgOk c){out:List ByteArray}(g:OuI c h n out):W7 out=txL c h n:=
 XR.ext (QnX g.nod) (KT XR n) fun t=>by rw[(Up out).mem_iff,g.mem,UA b]
end
end Go.Proofs.YtgpdhgadmjfokaaGreat
namespace Go.Proofs.YtgpdhgadmjfokaaGreat
open Go.RowKit
set_option maxRecDepth 100000
set_option maxHeartbeats 4000000
def Qvn (l:List ByteArray)(s:ByteArray):Bool:=l.any fun y=>decide (s=y)
section
variable {l:List ByteArray}{s y:ByteArray}{m:Int}
end
section
variable {c:DSg}[Decidable (SgOk c)]{h m mo:Int}{n:Nat}
theorem Qeg (k:¬QhN c h m):([],false)=trV c h m:=(QrS k).symm
end
section
variable {a b:QV}[∀s,Decidable (StgOk s)][∀c,Decidable (SgOk c)]{m:Int}{k:Nat}{s:ByteArray}
def tiV (a b:QV)[∀s,Decidable (StgOk s)][∀c,Decidable (SgOk c)](m:Int):Bool×Bool:=
 if (sgV a).2=true∧(sgV b).2=true∧(trV (sgV a).1 (-1) m).2=true∧(trV (sgV b).1 (-1) m).2=true then ((trV (sgV a).1 (-1) m).1.all fun s=>Qvn (trV (sgV b).1 (-1) m).1 s,true) else (false,false)
end
end Go.Proofs.YtgpdhgadmjfokaaGreat
namespace Go.Proofs.YtgpdhgadmjfokaaGreat
open Go.RowKit
set_option maxRecDepth 100000
set_option maxHeartbeats 4000000
section
variable {ss:List QB}{l:Int×Bool}{g:QB}
theorem Qvp (h:l.1 < 0):(⟨#[126]⟩:ByteArray)=edT ss l:=(if_pos h).symm
theorem Qvw (h:¬l.1 < 0)(a:ss[l.1.toNat]? =some g)(b:l.2=true):g.1++(⟨#[43]⟩:ByteArray)=edT ss l:=by unfold edT sgB; rw[if_neg h,a,if_pos b]; rfl
theorem Qvg (h:¬l.1 < 0)(a:ss[l.1.toNat]? =some g)(b:l.2=false):g.1++(⟨#[45]⟩:ByteArray)=edT ss l:=by unfold edT sgB; rw[if_neg h,a,b]; rfl
end
theorem Qav (a:QiO)(l:QdA)(f:∀g∈a,g.1.size≤6)(p:l.1 < (a.length:Int)):FC Tryz.prog 219 [(false,[.dat Qj a]),(true,[dI l.1,dB l.2])] [] 0 (Q7 (lf (dS (edT a l)))):=by
 refine Qu Tryz.func219 rfl rfl Tryz.ntmps219 fun n d m h o j i=> ?_
 refine acG 1 0 fun _=> ?_
 refine w_ ?_
 refine xbx 0 ?_
 refine w10 ?_
 refine cd_ (fun _ _=> ?_) fun _ _=> ?_
 refine w5 ?_
 cases k:(l.2)
 refine w7 ?_
 obtain ⟨q,b⟩:=gx a ((l.1).toNat)
 have e:=f _ (ai b)
 refine w3 ?_
 refine lc (Q8 (Qa rfl) (Evl.str rfl) rfl (by (simp only[YO]; omega))) ?_
 refine w2 ?_
 refine Qe<|fqS d ?_
 exact Qvg ‹_› b ‹_›
 refine w5 ?_
 obtain ⟨r,c⟩:=gx a ((l.1).toNat)
 have e:=f _ (ai c)
 refine w3 ?_
 refine lc (Q8 (Qa rfl) (Evl.str rfl) rfl (by (simp only[YO]; omega))) ?_
 refine w2 ?_
 refine Qe<|fqS d ?_
 exact Qvw ‹_› c ‹_›
 refine w3 ?_
 refine Qe<|fqS d ?_
 first | exact Qvp ‹_›
theorem QcT (s:List Int)(m:s.length≤100000000):FC Tryz.prog 218 [(false,[.dat QO s])] [] 0 (XD 3 .int s):=by
 refine Qu Tryz.func218 rfl rfl Tryz.ntmps218 fun i b h c j f d=> ?_
 refine w6 ?_
 refine QbP (Qa rfl) Evl.val Ya rfl fun k a=> ?_
 refine w_ ?_
 refine cb_ (fun _=> ?_) fun _=> ?_
 refine w2 ?_
 refine lc (dBs 0 (e:= .int) Yz) ?_
 refine w_ ?_
 refine lc (Zf 1 (Qa rfl) rfl (Evl.rep (Qa rfl)) rfl Ya Xe (by first | omega | (simp only[ah,aE,au,ap,aD]; omega) | (simp only[ah,bw,au,ap,aD]; omega)) rfl (Fresh.of rfl) (nlr rfl)) ?_
 refine w2 ?_
 refine Qe<|fo_ b ?_
 rfl
 refine w3 ?_
 refine AC.wk (Wk.nilS 2 2 3 .int rfl (Fresh.of rfl) (nlr rfl))<|Qe<|fo_ b ?_
 exact (a ‹_›).symm
theorem Kx (c:Z9)(set:List Int)(b:Int)(D:SgOk c)(C:Rng c set):FC Tryz.prog 108 [(true,[.dat Qj c.1, .dat Qm c.2.1, .dat Qw c.2.2]),(false,[.dat QO set]),(false,[dI b])] [] 0 (XD 3 .int (clV c b set)):=by
 have R:=D.few
 have U:=D.some_
 have W:=Qph C.1 C.2
 refine Qu Tryz.func108 rfl rfl Tryz.ntmps108 fun O_ O Z L X_ N M=> ?_
 refine acI 2 fun _=> ?_
 refine w_ ?_
 refine xbx 0 ?_
 refine w4 ?_
 refine lc (dO 1 (QcT set (by omega)) QhP) ?_
 refine w7 ?_
 refine QQ (fun J K=>∃(k:Nat) (j:List Int),k≤301∧J=301 - k∧(clL c.2.2 b (301 - k) k j=clV c b set)∧(ClI c.2.2 b (fun v=>v∈set) k j)∧K=⟨[(2,lI b),(3,lP 0 0),(6,lf (.val (.slice none 0 0))),(7,lR 2),(8,lI (k:Int))],[bx 0 27 [.dat Qj c.1, .dat Qm c.2.1, .dat Qw c.2.2],ar 2 3 .int j]⟩) ⟨0,set,aP _,rfl,rfl,(ClI.zero C.1 fun _=>Iff.rfl),rfl⟩ ?_ ?_
 exact wo [(2,1)]
 rintro J K ⟨k,j,S,T,G,F,rfl⟩
 have V:=Qkr D C F
 refine w7 ?_
 cases x:(decide ((k:Int) < (j.length:Int)))
 have z:=aa x
 refine w7 ?_
 refine Qe<|fo_ O ?_
 exact QrG G (by omega)
 have z:=ab x
 refine w7 ?_
 refine alL 20 fun _=> ?_
 refine w4 ?_
 obtain ⟨u,E⟩:=gx j k
 refine lp0 c.2.2.length (fun i=>⟨[(2,lI b),(3,lP 0 0),(6,lf (.val (.slice none 0 0))),(7,lR 3),(8,lI (k:Int)),(13,lI (k:Int)),(15,lI (j.length:Int)),(16,lB true),(19,lP 0 2),(20,lf (.dat Qw c.2.2)),(21,lI (c.2.2.length:Int)),(22,lI (i:Int))],[bx 0 27 [.dat Qj c.1, .dat Qm c.2.1, .dat Qw c.2.2],ar 3 3 .int (clA (c.2.2.take i) b u j)]⟩) ?_ fun i _=> ?_
 exact wp [(3,2)] ⟨rfl,(Qh (rfl)),trivial⟩
 have Q:=Qss (as_:=c.2.2.take i) (h:=b) (u:=u) (out:=j)
 have P:=Quc (as_:=c.2.2.take i) (h:=b) (u:=u) (out:=j)
 have X:(c.2.2.take i).length≤c.2.2.length:=by simp only[au]; omega
 refine w4 ?_
 cases A:(decide ((i:Int) < (c.2.2.length:Int)))
 have B:=aa A
 refine w7 ?_
 refine Qc<|Zs ⟨k+1,(clA (c.2.2.take i) b u j),by omega,rfl,(by rw[bq (by omega)]; exact QqK G E (by omega)),(by rw[bq (by omega)]; exact F.step E),rfl⟩ (by omega) ?_
 exact wp [(2,3)] ⟨rfl,(Qh (by first | rfl | simp)),trivial⟩
 have B:=ab A
 refine w5 ?_
 obtain ⟨a,d⟩:=gx c.2.2 i
 refine w2 ?_
 refine lc (xal 4 QG Zu) ?_
 refine w2 ?_
 obtain ⟨r,p⟩:=gx (clA (c.2.2.take i) b u j) k
 have Y:=Qus E p
 cases m:(decide (a.1=r))
 have s:=aa m
 apply dW (i4 26 _ _ _ _ (io 30 (lf (.ept 3 1 k 0)) :: io 31 (lI r) :: io 32 (lB false) :: i9 33 _ _ _ _ _ _ _ _ _ (i9 42 _ _ _ _ _ _ _ _ _ []))) [0,0,3,7,3,3,0,0,0,0,0,0,0,0,12288,0,0,0,0,0,524288,524288,0,0,0]
 refine z4 ?_
 refine zz (fun _ f=>ac (QM (e:= .int) (f.v rfl) (f.en 3 rfl) (f.v rfl) Ya Yu rfl (by omega) (by first | omega | (simp only[ay]; omega))) rfl)<|zz (fun _ f=>ac (Zv (e:= .int) (f.v rfl) (f.n 3 rfl) p rfl Yu rfl rfl) rfl)<|zz (fun _ f=>ac (Qy (m) (Yo (f.v rfl) (f.v rfl) rfl)) rfl) ?_
 refine z16 ?_
 exact y2
 refine w6 ?_
 refine Qc ?_
 refine l0_ ?_
 exact wp [] ⟨rfl,(Qh (by first | exact QeL d (by omega) ‹_› ‹_› | exact Qef d (by omega) ‹_› ‹_› | exact Qeo d (by omega) | exact Qd7 d ‹_› ‹_› | exact QdW d ‹_›)),trivial⟩
 have s:=ab m
 cases o:(decide (a.2.1=(-1)))
 have t:=aa o
 cases q:(decide (a.2.1=b))
 have w:=aa q
 apply dW (i4 26 _ _ _ _ (io 30 (lf (.ept 3 1 k 0)) :: io 31 (lI r) :: io 32 (lB true) :: i3 33 _ _ _ (io 36 (lB false) :: i4 37 _ _ _ _ (io 41 (lB false) :: i9 42 _ _ _ _ _ _ _ _ _ [])))) [0,0,3,7,3,3,0,0,0,0,0,0,0,0,12288,0,0,0,0,0,524288,524288,0,0,0]
 refine z4 ?_
 refine zz (fun _ f=>ac (QM (e:= .int) (f.v rfl) (f.en 3 rfl) (f.v rfl) Ya Yu rfl (by omega) (by first | omega | (simp only[ay]; omega))) rfl)<|zz (fun _ f=>ac (Zv (e:= .int) (f.v rfl) (f.n 3 rfl) p rfl Yu rfl rfl) rfl)<|zz (fun _ f=>ac (Qy (m) (Yo (f.v rfl) (f.v rfl) rfl)) rfl) ?_
 refine z3 ?_
 refine zz (fun _ f=>day rfl (f.k rfl) (Qy (o) (Yo (f.v rfl) (Qo rfl) rfl)) rfl) ?_
 refine z4 ?_
 refine zz (fun _ f=>day rfl (f.k rfl) (Qy (q) (Yo (f.v rfl) (f.v rfl) rfl)) rfl) ?_
 exact y9
 refine w6 ?_
 refine Qc ?_
 refine l0_ ?_
 exact wp [] ⟨rfl,(Qh (by first | exact QeL d (by omega) ‹_› ‹_› | exact Qef d (by omega) ‹_› ‹_› | exact Qeo d (by omega) | exact Qd7 d ‹_› ‹_› | exact QdW d ‹_›)),trivial⟩
 have w:=ab q
 apply dW (i4 26 _ _ _ _ (io 30 (lf (.ept 3 1 k 0)) :: io 31 (lI r) :: io 32 (lB true) :: i3 33 _ _ _ (io 36 (lB false) :: i4 37 _ _ _ _ (io 41 (lB true) :: i6 42 _ _ _ _ _ _ (io 48 (lB ((clA (c.2.2.take i) b u j).any (fun y=>decide (a.2.2.2=y)))) :: i2 49 _ _ []))))) [0,0,3,7,3,3,0,0,0,0,0,0,0,0,12288,0,0,0,0,0,524288,524288,0,0,0]
 refine z4 ?_
 refine zz (fun _ f=>ac (QM (e:= .int) (f.v rfl) (f.en 3 rfl) (f.v rfl) Ya Yu rfl (by omega) (by first | omega | (simp only[ay]; omega))) rfl)<|zz (fun _ f=>ac (Zv (e:= .int) (f.v rfl) (f.n 3 rfl) p rfl Yu rfl rfl) rfl)<|zz (fun _ f=>ac (Qy (m) (Yo (f.v rfl) (f.v rfl) rfl)) rfl) ?_
 refine z3 ?_
 refine zz (fun _ f=>day rfl (f.k rfl) (Qy (o) (Yo (f.v rfl) (Qo rfl) rfl)) rfl) ?_
 refine z4 ?_
 refine zz (fun _ f=>day rfl (f.k rfl) (Qy (q) (Yo (f.v rfl) (f.v rfl) rfl)) rfl) ?_
 refine z6 ?_
 refine zz (fun _ f=>day rfl (f.k rfl) (dB_ (ZB (clA (c.2.2.take i) b u j) a.2.2.2) UL) rfl) ?_
 exact y2
 cases H:((clA (c.2.2.take i) b u j).any (fun y=>decide (a.2.2.2=y)))
 refine w5 ?_
 refine alI 53 fun _=> ?_
 refine lc (dBs 5 (e:= .int) Yz) ?_
 refine lc (dA 6 Xe) ?_
 refine w_ ?_
 refine Qc ?_
 refine w4 ?_
 refine Qc ?_
 refine l0_ ?_
 exact wp [(3,6)] ⟨rfl,(Qh (by first | exact QeL d (by omega) ‹_› ‹_› | exact Qef d (by omega) ‹_› ‹_› | exact Qeo d (by omega) | exact Qd7 d ‹_› ‹_› | exact QdW d ‹_›)),trivial⟩
 refine w6 ?_
 refine Qc ?_
 refine l0_ ?_
 exact wp [] ⟨rfl,(Qh (by first | exact QeL d (by omega) ‹_› ‹_› | exact Qef d (by omega) ‹_› ‹_› | exact Qeo d (by omega) | exact Qd7 d ‹_› ‹_› | exact QdW d ‹_›)),trivial⟩
 have t:=ab o
 apply dW (i4 26 _ _ _ _ (io 30 (lf (.ept 3 1 k 0)) :: io 31 (lI r) :: io 32 (lB true) :: i3 33 _ _ _ (io 36 (lB true) :: i9 37 _ _ _ _ _ _ _ _ _ (i2 46 _ _ (io 48 (lB ((clA (c.2.2.take i) b u j).any (fun y=>decide (a.2.2.2=y)))) :: i2 49 _ _ []))))) [0,0,3,7,3,3,0,0,0,0,0,0,0,0,12288,0,0,0,0,0,524288,524288,0,0,0]
 refine z4 ?_
 refine zz (fun _ f=>ac (QM (e:= .int) (f.v rfl) (f.en 3 rfl) (f.v rfl) Ya Yu rfl (by omega) (by first | omega | (simp only[ay]; omega))) rfl)<|zz (fun _ f=>ac (Zv (e:= .int) (f.v rfl) (f.n 3 rfl) p rfl Yu rfl rfl) rfl)<|zz (fun _ f=>ac (Qy (m) (Yo (f.v rfl) (f.v rfl) rfl)) rfl) ?_
 refine z3 ?_
 refine zz (fun _ f=>day rfl (f.k rfl) (Qy (o) (Yo (f.v rfl) (Qo rfl) rfl)) rfl) ?_
 refine z11 ?_
 refine zz (fun _ f=>day rfl (f.k rfl) (dB_ (ZB (clA (c.2.2.take i) b u j) a.2.2.2) UL) rfl) ?_
 exact y2
 cases I:((clA (c.2.2.take i) b u j).any (fun y=>decide (a.2.2.2=y)))
 refine w5 ?_
 refine alI 53 fun _=> ?_
 refine lc (dBs 7 (e:= .int) Yz) ?_
 refine lc (dA 8 Xe) ?_
 refine w_ ?_
 refine Qc ?_
 refine w4 ?_
 refine Qc ?_
 refine l0_ ?_
 exact wp [(3,8)] ⟨rfl,(Qh (by first | exact QeL d (by omega) ‹_› ‹_› | exact Qef d (by omega) ‹_› ‹_› | exact Qeo d (by omega) | exact Qd7 d ‹_› ‹_› | exact QdW d ‹_›)),trivial⟩
 refine w6 ?_
 refine Qc ?_
 refine l0_ ?_
 exact wp [] ⟨rfl,(Qh (by first | exact QeL d (by omega) ‹_› ‹_› | exact Qef d (by omega) ‹_› ‹_› | exact Qeo d (by omega) | exact Qd7 d ‹_› ‹_› | exact QdW d ‹_›)),trivial⟩
theorem Qdz (c:Z9)(set:List Int)(b:Int)(n:SgOk c):FC Tryz.prog 109 [(true,[.dat Qj c.1, .dat Qm c.2.1, .dat Qw c.2.2]),(false,[.dat QO set]),(false,[dI b])] [] 0 (Is (lR 0) [(0,some (.res (moR (vOw 3 .int) .str (afV c set b) none)))]):=by
 have B:=n.few
 refine Qu Tryz.func109 rfl rfl Tryz.ntmps109 fun F w E t G v u=> ?_
 refine acI 2 fun _=> ?_
 refine w_ ?_
 refine xbx 0 ?_
 refine w3 ?_
 refine lc (Qjt (k:= .str) (vOw 3 .int) 1 rfl (Fresh.of rfl) (nlr rfl)) ?_
 refine w6 ?_
 refine alL 13 fun _=> ?_
 refine w4 ?_
 refine lp0 c.2.2.length (fun k=>⟨[(1,lf (.dat QO set)),(2,lI b),(3,lP 0 0),(6,lf (.val (.map none))),(7,lR 1),(13,lf (.dat Qw c.2.2)),(14,lI (c.2.2.length:Int)),(15,lI (k:Int))],[bx 0 27 [.dat Qj c.1, .dat Qm c.2.1, .dat Qw c.2.2],(1,some (.res (moR (vOw 3 .int) .str (afT c set b k) none)))]⟩) ?_ fun k _=> ?_
 exact wp [] ⟨rfl,(Qmp (rfl)),trivial⟩
 refine w4 ?_
 cases o:(decide ((k:Int) < (c.2.2.length:Int)))
 have q:=aa o
 refine w8 ?_
 exact fi_ [(0,1)] w ⟨(Qmp (by exact QkU (by omega))),trivial⟩
 have q:=ab o
 refine w5 ?_
 obtain ⟨a,d⟩:=gx c.2.2 k
 have am:=ai d
 refine w2 ?_
 refine lc (xal 2 QG Zu) ?_
 refine w6 ?_
 refine alI 21 fun _=> ?_
 refine lc (dK (ZB set a.1) UL) ?_
 refine w_ ?_
 cases A:(set.any (fun y=>decide (a.1=y)))
 refine w16 ?_
 refine w_ ?_
 refine Qc ?_
 refine l0_ ?_
 exact wp [] ⟨rfl,(Qmp (by first | exact QpB d ‹_› ‹_› ‹_› (by have:=KH n am ‹_›; omega) | exact Qki d ‹_› | exact Qj8 d ‹_› | exact Qj2 d ‹_›)),trivial⟩
 refine w5 ?_
 cases r:(!decide (a.2.1=(-1)))
 have s:(a.2.1=(-1)):=QJ r
 refine w12 ?_
 refine Qc ?_
 refine l0_ ?_
 exact wp [] ⟨rfl,(Qmp (by first | exact QpB d ‹_› ‹_› ‹_› (by have:=KH n am ‹_›; omega) | exact Qki d ‹_› | exact Qj8 d ‹_› | exact Qj2 d ‹_›)),trivial⟩
 have s:¬(a.2.1=(-1)):=QU r
 refine w6 ?_
 cases f:(!decide (a.2.1=b))
 have m:(a.2.1=b):=QJ f
 refine w6 ?_
 refine Qc ?_
 refine l0_ ?_
 exact wp [] ⟨rfl,(Qmp (by first | exact QpB d ‹_› ‹_› ‹_› (by have:=KH n am ‹_›; omega) | exact Qki d ‹_› | exact Qj8 d ‹_› | exact Qj2 d ‹_›)),trivial⟩
 have m:¬(a.2.1=b):=QU f
 refine w_ ?_
 apply dW (i3 34 _ _ _ [io 37 (ag [dI a.2.1,dB a.2.2.1]),io 38 (lf (dS (edT c.1 (a.2.1,a.2.2.1)))),io 10 _]) [0,0,3,3,0,0]
 refine z3 ?_
 refine zz (fun _ x=>ac (dK (Zm a) Xp) rfl) ?_
 refine zz (fun _ x=>ac (dK (Qav c.1 (a.2.1,a.2.2.1) (fun g C=>by obtain ⟨j,D⟩:=aJ.1 C; exact QjU n D) (by have:=KH n am ‹_›; omega)) Qia) rfl) ?_
 exact y1
 refine w5 ?_
 refine lc (Qjq (p:=edT c.1 (a.2.1,a.2.2.1)) 3 QjX UE Qs0 (Qa rfl) rfl (Qr rfl) rfl rfl (Fresh.of rfl) (nlr rfl)) ?_
 refine w2 ?_
 refine alI 45 fun _=> ?_
 refine lc (dBs 4 (e:= .int) Yz) ?_
 refine lc (dA 5 Xe (hb:=by (have z:=Qnl (c:=c) (S:=set) (h:=b) (i:=k) (edT c.1 (a.2.1,a.2.2.1)); simp only[ap,aD]; omega))) ?_
 refine lc (QmO (p:=edT c.1 (a.2.1,a.2.2.1)) QjX UE (Qa rfl) rfl (Qr rfl) rfl (Qa rfl) rfl)<|Qc ?_
 refine w4 ?_
 refine Qc ?_
 refine l0_ ?_
 exact wp [] ⟨rfl,(Qmp (by first | exact QpB d ‹_› ‹_› ‹_› (by have:=KH n am ‹_›; omega) | exact Qki d ‹_› | exact Qj8 d ‹_› | exact Qj2 d ‹_›)),trivial⟩
end Go.Proofs.YtgpdhgadmjfokaaGreat
namespace Go.Proofs.YtgpdhgadmjfokaaGreat
open Go.RowKit
set_option maxRecDepth 100000
set_option maxHeartbeats 4000000
def kyL (B:DLv):List ByteArray:=B.map fun p=>p.1
section
variable {c:DSg}[Decidable (SgOk c)]{h m:Int}{n k:Nat}{M B Z:DLv}{out:List ByteArray}{z:ByteArray×List Int}
theorem Qvu:out=out++kyL []:=(bp _).symm
theorem Qvk:(out++kyL B)++[z.1]=out++kyL (B++[z]):=by unfold kyL; rw[bB,aO]; rfl
theorem Qoh:(kyL B).length=B.length:=by unfold kyL; rw[aE]
theorem Qs9 (d:SgOk c)(g:Lev c h (n+1) M)(e:(txL c h n).length≤400):M.length≤1600000:=by
 have o:=Qqv (h:=h) (n:=n) d
 have q:=Qp9 (h:=h) (n:=n) d
 have i:(kyL M).Nodup:=by
  unfold kyL List.Nodup
  rw[cr]; exact g.nod
 have e:=UM i (m:=(Vg c h (n+1)).map fun x=>x.1) fun t j=>by
  obtain ⟨p,f,rfl⟩:=aR.1 j
  obtain ⟨u,l⟩:=(g.mem p f).1
  exact aR.2 ((QfO (Qbs d (n+1)).1.1).2 ⟨u,((g.mem p f).2 u).1 l⟩)
 rw[Qoh,aE] at e
 omega
theorem Qrx (g:(B++Z).Perm M):B.length≤M.length:=by have:=g.length_eq; rw[ah] at this; omega
theorem QtC (f:SgOk c)(d:OuI c h n out)(k:(400:Int) < (out.length:Int))(e:n≤m.toNat):([],false)=trV c h m:=by
 have:=d.len f XR
 exact (Qpa XR (n:=n) (by omega) e).symm
theorem QtA (g:QhN c h m)(d:OuI c h n out)(f:out.length≤400)(e:n=m.toNat):(W7 out,true)=trV c h m:=by
 subst e
 have:=d.len g.1 XR
 rw[Qsy g.1 d]
 exact (Qqs g (by omega)).symm
end
theorem Ka (c:Z9)(d:Int)(f:Int)[∀c,Decidable (SgOk c)]:FC Tryz.prog 24 [(true,[.dat Qj c.1, .dat Qm c.2.1, .dat Qw c.2.2]),(false,[dI d]),(false,[dI f])] [] 0 (Is (PV.tup [(false,[.ref 0]),(false,[dB ((trV c d f).2)])]) [ar 0 9 .str ((trV c d f).1)]):=by
 classical
 refine Qu Tryz.func24 rfl rfl Tryz.ntmps24 fun O_ N b5 b1 X_ b3 b2=> ?_
 refine acI 1 fun _=> ?_
 refine acI 2 fun _=> ?_
 refine w_ ?_
 refine xbx 0 ?_
 refine w6 ?_
 refine lc (dK (Yb c) JC) ?_
 refine w2 ?_
 cases O:(decide (SgOk c))
 have P:=aa O
 refine w16 ?_
 refine w3 ?_
 refine AC.wk (Wk.nilS 1 6 9 .str rfl (Fresh.of rfl) (nlr rfl))<|Qe ?_
 have e4:(false:Bool)=((trV c d f).2):=by
  exact congrArg Prod.snd (Qeg (fun g=>by first | exact absurd g.1 ‹_› | exact absurd g.2.1 ‹_› | exact absurd g.2.2 ‹_›))
 exact fi_ [(0,1)] N ⟨(Qh (by exact congrArg Prod.fst (Qeg (fun g=>by first | exact absurd g.1 ‹_› | exact absurd g.2.1 ‹_› | exact absurd g.2.2 ‹_›)))),trivial⟩ (h0:=by rw[← e4] <;> rfl)
 have P:=ab O
 refine w3 ?_
 refine alL 22 fun _=> ?_
 refine w2 ?_
 refine lgy rfl rfl (dK (Zd d (-1) ((c.1.length:Int) - 1)) Z3) ?_
 refine w3 ?_
 cases Q:(decide ((-1)≤d∧d≤((c.1.length:Int) - 1)))
 have S:=aa Q
 refine w10 ?_
 refine AC.wk (Wk.nilS 2 6 9 .str rfl (Fresh.of rfl) (nlr rfl))<|Qe ?_
 have e7:(false:Bool)=((trV c d f).2):=by
  exact congrArg Prod.snd (Qeg (fun g=>by first | exact absurd g.1 ‹_› | exact absurd g.2.1 ‹_› | exact absurd g.2.2 ‹_›))
 exact fi_ [(0,2)] N ⟨(Qh (by exact congrArg Prod.fst (Qeg (fun g=>by first | exact absurd g.1 ‹_› | exact absurd g.2.1 ‹_› | exact absurd g.2.2 ‹_›)))),trivial⟩ (h0:=by rw[← e7] <;> rfl)
 have S:=ab Q
 refine w_ ?_
 refine lgy rfl rfl (dK (Zd f 0 6) Z3) ?_
 refine w3 ?_
 cases T:(decide (0≤f∧f≤6))
 have U:=aa T
 refine w5 ?_
 refine AC.wk (Wk.nilS 3 6 9 .str rfl (Fresh.of rfl) (nlr rfl))<|Qe ?_
 have e9:(false:Bool)=((trV c d f).2):=by
  exact congrArg Prod.snd (Qeg (fun g=>by first | exact absurd g.1 ‹_› | exact absurd g.2.1 ‹_› | exact absurd g.2.2 ‹_›))
 exact fi_ [(0,3)] N ⟨(Qh (by exact congrArg Prod.fst (Qeg (fun g=>by first | exact absurd g.1 ‹_› | exact absurd g.2.1 ‹_› | exact absurd g.2.2 ‹_›)))),trivial⟩ (h0:=by rw[← e9] <;> rfl)
 have U:=ab T
 refine w3 ?_
 refine lc (dBs 4 (e:= .str) WE) ?_
 refine lc (Uo (kt:=9) (et:=32) (kb:=false) (k:= .str) (vb:=false) (v:=QO) 5 rfl (Fresh.of rfl) (nlr rfl)) ?_
 refine w_ ?_
 refine lc (dBs 6 (e:= .int) Yz) ?_
 refine w_ ?_
 refine lc (QaJ 7 (Kx c ([0]) d ‹_› (Qhd ‹SgOk c›)) QbS ⟨_,_,rfl,(Ev.b (Qr rfl)),⟨_,_,rfl,(Qaw (Qa rfl) rfl),⟨_,_,rfl,(Ev.b (Qr rfl)),rfl⟩⟩⟩ rfl (Fresh.of rfl) (nlr rfl))<|lc (Qgf QjX UE (Qa rfl) rfl (Evl.ev (Evl.str rfl)) (p:=(⟨#[]⟩:ByteArray)) rfl (Qr rfl) (u:=clV c d ([0])) rfl) ?_
 refine w10 ?_
 refine QQ (fun r t=>∃(k:Nat) (out:List ByteArray) (j:List (ByteArray×List Int)),k≤f.toNat∧r=f.toNat - k∧(OuI c d k out)∧(Lev c d k j)∧(out.length≤400)∧t=⟨[(1,lI d),(3,lP 0 0),(8,lR 8),(9,lR 9),(40,lI f),(41,lI (k:Int))],[bx 0 27 [.dat Qj c.1, .dat Qm c.2.1, .dat Qw c.2.2],ar 8 9 .str out,(9,some (.mp false .str false QO j))]⟩) ⟨0,[(⟨#[]⟩:ByteArray)],Yx .str ([]) (⟨#[]⟩:ByteArray) (clV c d ([0])),aP _,rfl,OuI.zero,(QmV ‹SgOk c›),(by simp),rfl⟩ ?_ ?_
 exact wp [(8,4),(9,5)] ⟨rfl,(Qh (by first | rfl | simp)),(Qmh (by first | rfl | simp)),trivial⟩
 rintro r t ⟨k,out,j,a5,a6,x,hL,h4,rfl⟩
 refine w4 ?_
 cases y:(decide ((k:Int) < f))
 have G:=aa y
 refine w5 ?_
 refine lc (dP 10 [(0,8)] (Qog out (by omega)) QiN) ?_
 refine w7 ?_
 have a3:(true:Bool)=((trV c d f).2):=by
  exact congrArg Prod.snd (QtA ⟨by assumption,by omega,by omega⟩ x h4 (by omega))
 exact fi_ [(0,8)] N ⟨(Qh (by exact congrArg Prod.fst (QtA ⟨by assumption,by omega,by omega⟩ x h4 (by omega)))),trivial⟩ (h0:=by rw[← a3] <;> rfl)
 have G:=ab y
 refine w5 ?_
 refine lc (Uo (kt:=9) (et:=32) (kb:=false) (k:= .str) (vb:=false) (v:=QO) 11 rfl (Fresh.of rfl) (nlr rfl)) ?_
 refine w5 ?_
 refine AL.wk (Qj6 (q:=9) rfl rfl)<|Qb0 false (q:=9) UE (Qa rfl) rfl rfl fun s=> ?_
 refine w2 ?_
 refine QQ (fun r t=>∃(L:DLv) (l:List (ByteArray×List Int)) (D:DLv),r=L.length∧((D++L).Perm j)∧(NxI c d (Vs c d D) l)∧t=⟨[(1,lI d),(3,lP 0 0),(8,lR 8),(9,lR 9),(10,lR 12),(40,lI f),(41,lI (k:Int)),(42,lB true),(44,lR 9),(45,lf (.val s))],[bx 0 27 [.dat Qj c.1, .dat Qm c.2.1, .dat Qw c.2.2],ar 8 9 .str out,(9,some (.res (itR (vFz QO) .str false j L none s))),(12,some (.mp false .str false QO l))]⟩) ⟨j,[],[],rfl,(dh _),Qqe,rfl⟩ ?_ ?_
 exact wp [(12,11)] ⟨rfl,rfl,rfl,(Qmh (by first | rfl | simp)),trivial⟩
 rintro r t ⟨L,l,D,V,hD,hN,rfl⟩
 refine w_ ?_
 refine QfC (q:=9) (Qa rfl) rfl (.inl rfl) rfl (fun J=> ?_) (fun Y a2 q1 q q2 J=> ?_)
 refine AL.wk (QjQ (q:=9) rfl)<|AL.wk (Qkj (q:=9) rfl rfl) ?_
 refine w7 ?_
 refine Z6 ?_
 have hK:=QrF hL hN hD J
 have b4:=Qs9 ‹SgOk c› hK (by have:=x.len ‹SgOk c› XR; omega)
 refine w2 ?_
 refine AL.wk (Qj6 (q:=12) rfl rfl)<|Qb0 false (q:=12) UE (Qa rfl) rfl rfl fun a0=> ?_
 refine w2 ?_
 refine QQ (fun r t=>∃(Z:DLv) (B:DLv),r=Z.length∧((B++Z).Perm l)∧t=⟨[(1,lI d),(3,lP 0 0),(8,lR 13),(9,lR 9),(10,lR 12),(40,lI f),(41,lI (k:Int)),(42,lB true),(44,lR 9),(45,lf (.val s)),(46,PV.tup [(false,[dB false])]),(47,lB false),(70,lR 12),(71,lf (.val a0))],[bx 0 27 [.dat Qj c.1, .dat Qm c.2.1, .dat Qw c.2.2],(9,some (.mp false .str false QO j)),(12,some (.res (itR (vFz QO) .str false l Z none a0))),ar 13 9 .str (out++kyL B)]⟩) ⟨l,[],rfl,(dh _),rfl⟩ ?_ ?_
 exact wp [(13,8)] ⟨rfl,rfl,rfl,(Qh (Qvu)),trivial⟩
 rintro r t ⟨Z,B,W,hB,rfl⟩
 refine w_ ?_
 refine QfC (q:=12) (Qa rfl) rfl (.inl rfl) rfl (fun hz=> ?_) (fun a7 a9 z1 z z2 hz=> ?_)
 refine AL.wk (QjQ (q:=12) rfl)<|AL.wk (Qkj (q:=12) rfl rfl) ?_
 refine w7 ?_
 refine Z6 ?_
 have F:OuI c d (k+1) (out++kyL B):=OuI.next ‹SgOk c› x hK (QbU hB hz)
 refine w5 ?_
 cases A:(decide (400 < ((out++kyL B).length:Int)))
 have H:=aa A
 refine w5 ?_
 refine Qc ?_
 refine w4 ?_
 refine Qc<|Zs ⟨k+1,(out++kyL B),l,by omega,rfl,F,hK,(by omega),rfl⟩ (by omega) ?_
 exact wp [(8,13),(9,12)] ⟨rfl,(Qh (by first | rfl | simp)),rfl,trivial⟩
 have H:=ab A
 refine w5 ?_
 refine AC.wk (Wk.nilS 14 6 9 .str rfl (Fresh.of rfl) (nlr rfl))<|Qe ?_
 have a4:(false:Bool)=((trV c d f).2):=by
  exact congrArg Prod.snd (QtC ‹SgOk c› F ‹_› (by omega))
 exact fi_ [(0,14)] N ⟨(Qh (by exact congrArg Prod.fst (QtC ‹SgOk c› F ‹_› (by omega)))),trivial⟩ (h0:=by rw[← a4] <;> rfl)
 refine w7 ?_
 refine lc (QaS (q:=12) rfl (Qa rfl) rfl rfl rfl rfl)<|AL.wk (QjW (q:=12) rfl rfl) ?_
 refine w6 ?_
 refine lc (dBs 15 (e:= .str) WE) ?_
 refine lc (dA 16 Ji (hb:=by (have h1:=Qrx hB; have h2:=Qoh (B:=B); simp only[ah,ap,aD]; omega))) ?_
 refine w_ ?_
 refine Qc<|Zs ⟨(z1++z2),(B++[z]),rfl,(H1 hB hz),rfl⟩ (by rw[W]; simp only[ah]; have K:=congrArg List.length hz; simp only[ah,ap] at K; omega) ?_
 exact wp [(13,16)] ⟨rfl,rfl,(QqU (by first | rfl | simp)),(Qh (Qvk)),trivial⟩
 refine w7 ?_
 refine lc (QaS (q:=9) rfl (Qa rfl) rfl rfl rfl rfl)<|AL.wk (QjW (q:=9) rfl rfl) ?_
 refine w9 ?_
 refine lc (dG 17 (Qdz c q.2 d ‹_›) QiB) ?_
 refine Qb0 true (q:=17) UE (Qa rfl) rfl rfl fun a1=> ?_
 refine w2 ?_
 refine QQ (fun r t=>∃(R:DLv) (i:List (ByteArray×List Int)) (E:DLv),r=R.length∧((E++R).Perm (afV c q.2 d))∧(NxI c d (Vm c d D q E) i)∧t=⟨[(1,lI d),(3,lP 0 0),(8,lR 8),(9,lR 9),(10,lR 18),(11,lf (dS q.1)),(12,lf (.dat QO q.2)),(40,lI f),(41,lI (k:Int)),(42,lB true),(44,lR 9),(45,lf (.val s)),(46,PV.tup [(false,[dB true]),(false,[.val Y]),(false,[.val a2])]),(47,lB true),(48,PV.tup [(false,[dS q.1]),(false,[.dat QO q.2])]),(49,lf (dS q.1)),(50,lf (.dat QO q.2)),(51,ag [.dat Qj c.1, .dat Qm c.2.1, .dat Qw c.2.2]),(52,lf (.dat QO q.2)),(53,lI d),(54,lR 17),(55,lf (.val a1))],[bx 0 27 [.dat Qj c.1, .dat Qm c.2.1, .dat Qw c.2.2],ar 8 9 .str out,(9,some (.res (itR (vFz QO) .str false j (q1++q2) none s))),(17,some (.res (itR (vOw 3 .int) .str true (afV c q.2 d) R none a1))),(18,some (.mp false .str false QO i))]⟩) ⟨afV c q.2 d,l,[],rfl,(dh _),(Qux hN),rfl⟩ ?_ ?_
 exact wp [(18,12)] ⟨rfl,rfl,rfl,(QqU (by first | rfl | simp)),rfl,trivial⟩
 rintro r t ⟨R,i,E,X,I,hM,rfl⟩
 refine w_ ?_
 refine QfC (q:=17) (Qa rfl) rfl (.inr rfl) rfl (fun C=> ?_) (fun a8 b0 p1 p p2 C=> ?_)
 refine w4 ?_
 refine Qj7<|Zs ⟨(q1++q2),i,(D++[q]),rfl,(H1 hD J),(QrH hM I C),rfl⟩ (by rw[V]; simp only[ah]; have K:=congrArg List.length J; simp only[ah,ap] at K; omega) ?_
 exact wp [(12,18)] ⟨rfl,rfl,(QqU (by first | rfl | simp)),rfl,trivial⟩
 refine w7 ?_
 refine lc (QgL (q:=17) 19 rfl (Qa rfl) rfl rfl rfl (Fresh.of rfl) (nlr rfl)) ?_
 refine w5 ?_
 apply dV (i3 61 _ _ _ (io 64 (lf (dS (q.1++p.1))) :: i2 65 _ _ [⟨some 67,lR 20,[ar 20 3 .int (ofG ltI p.2),(19,none)]⟩,io 68 (lI d),io 69 (lf (.dat QO (clV c d (ofG ltI p.2)))),⟨none,lf (.val undef),[(18,some (.mp false .str false QO (Yx .str i (q.1++p.1) (clV c d (ofG ltI p.2)))))]⟩])) [0,1,3,1,15,31,31,127,15,0]
 refine z3 ?_
 refine zz (fun _ o=>ac (Q8 (o.v rfl) (o.v rfl) rfl (by (have h1:=QpH ‹SgOk c› hL (KJ hD J); have h2:=Qq4 ‹SgOk c› (KJ I C); omega))) rfl) ?_
 refine z2 ?_
 refine zz (fun _ o=>ac (dP 20 [(0,19)] (Qfg p.2 (by have:=QrN ‹SgOk c› (KJ I C); omega)) Qh2) rfl) ?_
 refine z_ ?_
 refine zz (fun _ o=>ac (QaJ 21 (Kx c (ofG ltI p.2) d ‹_› (Qpx ‹SgOk c› (KJ I C))) QbS ⟨_,_,rfl,(Ev.b (o.w rfl)),⟨_,_,rfl,(Qaw (o.v rfl) (o.en 20 rfl)),⟨_,_,rfl,(Ev.b (o.w rfl)),rfl⟩⟩⟩ rfl (o.fr 21 rfl) (nlr rfl)) rfl)<|zz (fun _ o=>ac (Kh QjX UE (o.v rfl) (o.n 18 rfl) (o.w rfl) (p:=q.1++p.1) rfl (o.w rfl) (u:=clV c d (ofG ltI p.2)) rfl) rfl) ?_
 exact zN
 refine Zs ⟨(p1++p2),(Yx .str i (q.1++p.1) (clV c d (ofG ltI p.2))),(E++[p]),rfl,(H1 I C),(QqB ‹SgOk c› hL hM hD J I C),rfl⟩ (by rw[X]; simp only[ah]; have K:=congrArg List.length C; simp only[ah,ap] at K; omega) ?_
 exact wp [] ⟨rfl,rfl,rfl,(QqU (by first | rfl | simp)),(Qmh (by first | rfl | simp)),trivial⟩
section
variable {a b:QV}[∀s,Decidable (StgOk s)][∀c,Decidable (SgOk c)]{m:Int}
end
end Go.Proofs.YtgpdhgadmjfokaaGreat
namespace Go.Proofs.YtgpdhgadmjfokaaGreat
open Go.RowKit
set_option maxRecDepth 100000
set_option maxHeartbeats 4000000
def StX (c:DSg)(s:ByteArray)(p q:PSt)(l:QZ):Prop:=
 (ZA s p=true∧l=((c.1.length:Int),decide (bAt s p.1=43))∧q=(p.1, !p.2))∨∃a∈c.2.2,a.1=p.1∧Yi s p a=false∧l=(a.2.1,a.2.2.1)∧q=(a.2.2.2,p.2)
def tlX (c:DSg)(s:ByteArray)(p:PSt):List (QZ×PSt):=
 (if ZA s p=true then [(((c.1.length:Int),decide (bAt s p.1=43)),(p.1, !p.2))] else [])++((ZT c.2.2 p.1).filter fun a=> !Yi s p a).map fun a=>((a.2.1,a.2.2.1),(a.2.2.2,p.2))
def arX (c:DSg)(k:Int)(st:Ins)(x:QZ×PSt):Ins:=VD c st k x.1 x.2
section
variable {c:DSg}{s name:ByteArray}{st st':Ins}{ps r:List PSt}{p q:PSt}{k:Int}{l:QZ}{i j n f:Nat}{L:List DAr}{T:List (QZ×PSt)}
theorem QjI {x:QZ×PSt}:x∈tlX c s p↔StX c s p x.2 x.1:=by
 unfold tlX StX
 rw[aA,aR]
 constructor
 ·rintro (h | ⟨a,t,rfl⟩)
  ·split at h
   ·rename_i m; rw[az] at h; subst h; exact .inl ⟨m,rfl,rfl⟩
   ·cases h
  ·obtain ⟨b,d⟩:=cA.1 t
   obtain ⟨e,g⟩:=Kv.1 b
   exact .inr ⟨a,e,g,by simpa using d,rfl,rfl⟩
 ·obtain ⟨l,q⟩:=x
  rintro (⟨m,b,d⟩ | ⟨a,b,d,e,g,o⟩)
  ·left; rw[if_pos m,az]; exact dy b d
  ·exact .inr ⟨a,cA.2 ⟨Kv.2 ⟨b,d⟩,by rw[e]; rfl⟩,(dy g o).symm⟩
theorem QbM:∀(L:List DAr) {st:Ins},L.foldl (WO c s k p) st=((L.filter fun a=> !Yi s p a).map fun a=>(((a.2.1,a.2.2.1),(a.2.2.2,p.2)):QZ×PSt)).foldl (arX c k) st
 | [],_=>rfl
 | a :: L,st=>by
  rw[ba,cX]
  cases h:Yi s p a with
  | true=>rw[Y0 h]; exact QbM L
  | false=>rw[XI h]; exact QbM L
theorem QnZ (h:st.1[k.toNat]? =some p):XG c s st k=(tlX c s p).foldl (arX c k) st:=by
 rw[QeU h,QbM]
 unfold tlX
 rw[bE]
 cases a:ZA s p with
 | true=>rw[HK a]; rfl
 | false=>rw[Qb5 a]; rfl
theorem Qqi:∃r,psP ps p=ps++r:=by
 unfold psP
 split
 ·exact ⟨[],(bp _).symm⟩
 ·exact ⟨[p],rfl⟩
theorem Qsk:p∈psP ps p:=by
 unfold psP
 split
 ·assumption
 ·simp
theorem Qkm (h:p∈ps):ixP (ps++r) p=ixP ps p:=by unfold ixP; rw[List.idxOf_append,if_pos h]
theorem Qqk:ixP (psP ps p) p=ixP ps p:=by
 unfold psP
 split
 ·rfl
 ·rename_i h
  unfold ixP
  rw[List.idxOf_append,if_neg h,List.idxOf_eq_length h]; simp
theorem Qds:∀(T:List (QZ×PSt)) {st:Ins},(∃r,(T.foldl (arX c k) st).1=st.1++r)∧(∀x∈T,x.2∈(T.foldl (arX c k) st).1)∧(T.foldl (arX c k) st).2.2=st.2.2++T.map fun x=>(k,x.1.1,x.1.2,ixP (T.foldl (arX c k) st).1 x.2)
 | [],st=>⟨⟨[],(bp _).symm⟩,(fun x a=>by cases a),(bp _).symm⟩
 | x :: T,st=>by
  obtain ⟨⟨r,b⟩,h,m⟩:=Qds T (st:=arX c k st x)
  obtain ⟨t,o⟩:=Qqi (ps:=st.1) (p:=x.2)
  have a:x.2∈(arX c k st x).1:=Qsk
  have d:x.2∈(T.foldl (arX c k) (arX c k st x)).1:=by rw[b]; exact aH _ a
  rw[ba]
  refine ⟨⟨t++r,by rw[b,← aO]; exact congrArg (· ++r) o⟩,fun y e=> ?_, ?_⟩
  ·rcases aB.1 e with rfl | e
   ·exact d
   ·exact h y e
  ·have g:ixP st.1 x.2=ixP (T.foldl (arX c k) (arX c k st x)).1 x.2:=by
    rw[b,Qkm a]
    exact Qqk.symm
   rw[m,aZ]
   show (st.2.2++[(k,x.1.1,x.1.2,ixP st.1 x.2)])++_=_
   rw[aO,g]; rfl
structure BuI (c:DSg) (s:ByteArray) (k:Nat) (st:Ins):Prop where
  nd:st.1.Nodup
  zero:st.1[0]? =some (0,Vc s)
  arc:∀e∈st.2.2,∃i p q l,i < k∧st.1[i]? =some p∧q∈st.1∧StX c s p q l∧e=((i:Int),l.1,l.2,ixP st.1 q)
  all:∀i p q l,i < k→st.1[i]? =some p→StX c s p q l→q∈st.1∧((i:Int),l.1,l.2,ixP st.1 q)∈st.2.2
theorem BuI.start:BuI c s 0 (X7 c s):=⟨QeW bC,rfl,(fun e a=>by cases a),fun i _ _ _ b=>absurd b (bk _)⟩
theorem Qnw:∀(T:List (QZ×PSt)) {st:Ins},st.1.Nodup→(T.foldl (arX c k) st).1.Nodup
 | [],_,h=>h
 | _ :: T,_,h=>Qnw T (QeW h)
theorem BuI.step (g:BuI c s n st)(J:n < st.1.length):BuI c s (n+1) (XG c s st (n:Int)):=by
 obtain ⟨p,y⟩:∃z,st.1[n]? =some z:=⟨_,aj J⟩
 have A:st.1[((n:Nat):Int).toNat]? =some p:=y
 rw[QnZ A]
 obtain ⟨⟨r,v⟩,F,w⟩:=Qds (c:=c) (k:=(n:Int)) (tlX c s p) (st:=st)
 have a:∀{i:Nat} {x:PSt},st.1[i]? =some x→((tlX c s p).foldl (arX c (n:Int)) st).1[i]? =some x:=fun {i x} h=>by
  rw[v,bc (ae.1 h).1]; exact h
 have d:∀{i:Nat} {x:PSt},i < n+1→((tlX c s p).foldl (arX c (n:Int)) st).1[i]? =some x→st.1[i]? =some x:=fun {i x} G h=>by
  rwa [v,bc (by omega)] at h
 have u:∀{x:PSt},x∈st.1→ixP ((tlX c s p).foldl (arX c (n:Int)) st).1 x=ixP st.1 x:=fun b=>by rw[v,Qkm b]
 have t:∀{x:PSt},x∈st.1→x∈((tlX c s p).foldl (arX c (n:Int)) st).1:=fun b=>by rw[v]; exact aH _ b
 refine ⟨Qnw _ g.nd,a g.zero,fun e o=> ?_,fun i E q l G B H=> ?_⟩
 ·rw[w] at o
  rcases aA.1 o with o | o
  ·obtain ⟨i,E,q,l,C,D,I,K,M⟩:=g.arc e o
   exact ⟨i,E,q,l,by omega,a D,t I,K,by rw[u I]; exact M⟩
  ·obtain ⟨x,b,rfl⟩:=aR.1 o
   exact ⟨n,p,x.2,x.1,Nat.lt_succ_self _,a y,F x b,QjI.1 b,rfl⟩
 ·have m:=d G B
  by_cases e:i=n
  ·subst e
   rw[y] at m; cases m
   have b:(l,q)∈tlX c s p:=QjI.2 H
   exact ⟨F _ b,by rw[w]; exact aN _ (aR.2 ⟨_,b,rfl⟩)⟩
  ·obtain ⟨C,D⟩:=g.all i E q l (by omega) m H
   exact ⟨t C,by rw[w,u C]; exact aH _ D⟩
theorem Qga (b:SignsOk c s):∀(f:Nat) {k:Nat} {st:Ins},InsI c st→k+f=601→k≤st.1.length→BuI c s k st→BuI c s (Jq c s f k st).1.length (Jq c s f k st)
 | 0,k,st,hi,e,hk,g=>by have:=hi.few b.2.2.some_.2; omega
 | f+1,k,st,hi,e,hk,g=>by
  by_cases h:k < st.1.length
  ·rw[QeV h rfl]
   have m:k+1≤(XG c s st (k:Int)).1.length:=by
    obtain ⟨p,o⟩:∃z,st.1[k]? =some z:=⟨_,aj h⟩
    have a:st.1[((k:Nat):Int).toNat]? =some p:=o
    rw[QnZ a]
    obtain ⟨⟨r,d⟩,_,_⟩:=Qds (c:=c) (k:=(k:Int)) (tlX c s p) (st:=st)
    rw[d,ah]; omega
   exact Qga b f (V4 b hi).1 (by omega) m (g.step h)
  ·rw[Z2 (by omega)]
   have:k=st.1.length:=by omega
   rwa [this] at g
theorem H9 (a:SignsOk c s):BuI c s (QD c s).1.length (QD c s):=Qga a 601 (K2 a.2.2.some_.1) (bL _) (aP _) BuI.start
def Cns (s:ByteArray)(p:PSt):Prop:=(bAt s p.1=48→p.2=false)∧(bAt s p.1=49→p.2=true)
theorem Qlh:Cns s (0,Vc s):=by
 unfold Cns Vc
 constructor
 ·intro h; dsimp only at h ⊢; rw[h]; decide
 ·intro h; dsimp only at h ⊢; rw[h]; decide
def Sn (x:UInt8):Prop:=x=48∨x=43∨x=49∨x=45
theorem QhF {a:DAr}(e:a.1=p.1)(h:YF (bAt s a.1) (bAt s a.2.2.2)=true)(b:Sn (bAt s a.1))(d:Sn (bAt s a.2.2.2))(g:Cns s p):(Yi s p a=false∧Cns s (a.2.2.2,p.2))∨(ZA s p=true∧Yi s (p.1, !p.2) a=false∧Cns s (a.2.2.2, !p.2)):=by
 obtain ⟨o,v⟩:=p
 dsimp only at e g ⊢
 subst e
 obtain ⟨c1,c2⟩:=g
 dsimp only at c1 c2
 unfold Yi ZA ZP Cns
 dsimp only
 rcases b with b | b | b | b <;> rcases d with d | d | d | d <;> rw[b,d] at h <;> (try (exfalso; revert h; decide)) <;> cases v <;> simp[b,d] at c1 c2 ⊢
end
end Go.Proofs.YtgpdhgadmjfokaaGreat
namespace Go.Proofs.YtgpdhgadmjfokaaGreat
open Go.RowKit
set_option maxRecDepth 100000
set_option maxHeartbeats 4000000
section
variable {c x:DSg}{s name t:ByteArray}{st:Ins}{ps:List PSt}{p q:PSt}{u v:Int}{n i:Nat}{a:DAr}
theorem Qe0 (h:q∈ps):ps[(ixP ps q).toNat]? =some q:=by
 unfold ixP
 rw[cu,aj (List.idxOf_lt_length_of_mem h),List.getElem_idxOf]
theorem QiW (e:SgOk c)(d:a∈c.2.2):a.2.1 < (c.1.length:Int):=by
 rcases (e.arcs a d).2.2.1 with b | b
 ·omega
 ·have:=b.1; omega
theorem QoH {b:DAr}(h:SgOk c)(g:a∈c.2.2)(f:¬a.2.1= -1)(d:b.2.1=a.2.1)(e:b.2.2.1=a.2.2.1):wdA (Y4 c name st) b=wdA c a:=by
 have j:=KH h g f
 unfold wdA Y4
 rw[d,e]
 dsimp only
 rw[bc (by omega)]
theorem QsF (F:SignsOk c s)(k:Tr (Y4 c name (QD c s)) (c.1.length:Int) n t u):∃p,(QD c s).1[u.toNat]? =some p∧Tr c (-1) n t p.1:=by
 have g:=H9 F
 have f:∀{a:DAr} {p:PSt},a∈(QD c s).2.2→(QD c s).1[a.1.toNat]? =some p→∃q l,(QD c s).1[a.2.2.2.toNat]? =some q∧StX c s p q l∧a.2.1=l.1∧a.2.2.1=l.2:=fun {a p} J b=>by
  obtain ⟨i,M,q,l,z,r,d,A,rfl⟩:=g.arc a J
  have b:(QD c s).1[((i:Nat):Int).toNat]? =some p:=b
  rw[cu,r] at b
  cases b
  exact ⟨q,l,Qe0 d,A,rfl,rfl⟩
 induction k with
 | zero=>exact ⟨_,g.zero, .zero⟩
 | still I C D G=>
  obtain ⟨p,b,y⟩:=G
  obtain ⟨q,l,z,r,d,A⟩:=f C b
  refine ⟨q,z, ?_⟩
  rcases r with ⟨_,_,rfl⟩ | ⟨h,j,B,H,w,rfl⟩
  ·exact y
  ·have m:h.2.1= -1:=by
    have o:l.1=h.2.1:=by rw[w]
    have:=QiW F.2.2 j
    rcases QaP.1 D with e | e
    ·rw[← o,← d]; exact e
    ·rw[d,o] at e; omega
   exact .still (by rw[B]; exact y) j (QaP.2 (.inl m))
 | word I C D G=>
  obtain ⟨p,b,y⟩:=G
  obtain ⟨q,l,z,r,d,A⟩:=f C b
  refine ⟨q,z, ?_⟩
  obtain ⟨K,L⟩:=QaM.1 D
  rcases r with ⟨_,e,_⟩ | ⟨h,j,B,H,w,rfl⟩
  ·exact absurd (by rw[d,e]) L
  ·have o:l.1=h.2.1:=by rw[w]
   have E:l.2=h.2.2.1:=by rw[w]
   have m:¬h.2.1= -1:=fun e=>K (by rw[d,o,e])
   rw[QoH F.2.2 j m (d.trans o) (A.trans E)]
   exact .word (by rw[B]; exact y) j (QaM.2 ⟨m,m⟩)
theorem Qrj (d:SignsOk c s){z:Int}(h0:0≤z∧z < (s.size:Int)):Sn (bAt s z):=by
 obtain ⟨x,b⟩:∃x,s[z.toNat]? =some x:=⟨_,di s z.toNat (by omega)⟩
 rw[Qq b]
 exact d.1 x (ai (Hh b))
theorem Qok (z:SignsOk c s)(T:Y8 c s=true)(k:Tr c (-1) n t v):∃u p,(QD c s).1[u.toNat]? =some p∧p.1=v∧Cns s p∧Tr (Y4 c name (QD c s)) (c.1.length:Int) n t u:=by
 have g:=H9 z
 have U:∀{i:Nat} {p:PSt},(QD c s).1[i]? =some p→i < (QD c s).1.length:=fun h=>(ae.1 h).1
 have F:∀{u:Int} {p q:PSt} {l:QZ},0≤u→(QD c s).1[u.toNat]? =some p→StX c s p q l→(QD c s).1[(ixP (QD c s).1 q).toNat]? =some q∧(u,l.1,l.2,ixP (QD c s).1 q)∈(Y4 c name (QD c s)).2.2:=fun {u p q l} o j d=>by
  obtain ⟨m,f⟩:=g.all u.toNat p q l (U j) j d
  rw[show ((u.toNat:Nat):Int)=u by omega] at f
  exact ⟨Qe0 m,f⟩
 suffices H:∃u p,0≤u∧(QD c s).1[u.toNat]? =some p∧p.1=v∧Cns s p∧Tr (Y4 c name (QD c s)) (c.1.length:Int) n t u by
  obtain ⟨u,p,_,j,d,w,E⟩:=H; exact ⟨u,p,j,d,w,E⟩
 have Q:∀{n:Nat} {t:ByteArray} {u:Int} {p:PSt} {a:DAr},0≤u→(QD c s).1[u.toNat]? =some p→p.1=a.1→Cns s p→Tr (Y4 c name (QD c s)) (c.1.length:Int) n t u→a∈c.2.2→
  ∃A y,0≤A∧(QD c s).1[A.toNat]? =some y∧y.1=a.1∧Yi s y a=false∧Cns s (a.2.2.2,y.2)∧Tr (Y4 c name (QD c s)) (c.1.length:Int) n t A:=fun {n t u p a} o j d w E P=>by
  have r:=z.at_ P
  have S:=aq.1 T a P
  rcases QhF d.symm S (Qrj z r.1) (Qrj z r.2) w with ⟨m,f⟩ | ⟨m,f,B⟩
  ·exact ⟨u,p,o,j,d,m,f,E⟩
  ·obtain ⟨C,D⟩:=F o j (.inl ⟨m,rfl,rfl⟩)
   refine ⟨_,_,QeT.1,C,d,f,B, ?_⟩
   exact Tr.still E D (QaP.2 (.inr rfl))
 induction k with
 | zero=>exact ⟨0,_,du _,g.zero,rfl,Qlh, .zero⟩
 | still j d w G=>
  obtain ⟨u,p,o,m,f,B,O⟩:=G
  obtain ⟨A,y,I,J,K,L,M,N⟩:=Q o m f B O d
  obtain ⟨C,D⟩:=F I J (.inr ⟨_,d,K.symm,L,rfl,rfl⟩)
  exact ⟨_,_,QeT.1,C,rfl,M,Tr.still N D (QaP.2 (.inl ((QaP.1 w).elim id id)))⟩
 | word j d w G=>
  rename_i a
  obtain ⟨u,p,o,m,f,B,O⟩:=G
  obtain ⟨A,y,I,J,K,L,M,N⟩:=Q o m f B O d
  obtain ⟨C,D⟩:=F I J (.inr ⟨_,d,K.symm,L,rfl,rfl⟩)
  have R:=(QaM.1 w).1
  have V:¬a.2.1=(c.1.length:Int):=by have:=QiW z.2.2 d; omega
  have:=Tr.word N D (QaM.2 ⟨R,V⟩)
  have e:=QoH (name:=name) (st:=QD c s) (b:=(A,((a.2.1,a.2.2.1):QZ).1,((a.2.1,a.2.2.1):QZ).2,ixP (QD c s).1 (a.2.2.2,y.2))) z.2.2 d R rfl rfl
  rw[e] at this
  exact ⟨_,_,QeT.1,C,rfl,M,this⟩
theorem Qni (b:SignsOk c s)(d:Y8 c s=true):(∃u,Tr (Y4 c name (QD c s)) (c.1.length:Int) n t u)↔∃v,Tr c (-1) n t v:=
 ⟨fun ⟨_,k⟩=>by obtain ⟨p,_,h⟩:=QsF b k; exact ⟨p.1,h⟩,fun ⟨_,k⟩=>by obtain ⟨u,_,_,_,_,h⟩:=Qok (name:=name) b d k; exact ⟨u,h⟩⟩
theorem QqT (d:SignsOk c s)(e:Y8 c s=true)(f:SgOk (Y4 c name (QD c s))):txL (Y4 c name (QD c s)) (c.1.length:Int) n=txL c (-1) n:=
 XR.ext (KT XR n) (KT XR n) fun t=>by
  rw[UA f n,UA d.2.2 n]
  exact ⟨fun ⟨m,b,k⟩=>⟨m,b,(Qni d e).1 k⟩,fun ⟨m,b,k⟩=>⟨m,b,(Qni d e).2 k⟩⟩
theorem QqA [∀c,Decidable (SgOk c)](b:SignsOk c s)(j:Y8 c s=true)(d:SgOk (Y4 c name (QD c s))):trV (Y4 c name (QD c s)) (c.1.length:Int) 4=trV c (-1) 4:=by
 have f:QhN (Y4 c name (QD c s)) (c.1.length:Int) 4:=⟨d,⟨by omega,by unfold Y4; simp⟩,by decide⟩
 have h:QhN c (-1) 4:=⟨b.2.2,⟨by decide,by omega⟩,by decide⟩
 have e:=QqT (name:=name) (n:=(4:Int).toNat) b j d
 unfold trV
 rw[e]
 by_cases k:(txL c (-1) (4:Int).toNat).length≤400
 ·rw[if_pos ⟨f,k⟩,if_pos ⟨h,k⟩]
 ·rw[if_neg fun g=>k g.2,if_neg fun g=>k g.2]
end
end Go.Proofs.YtgpdhgadmjfokaaGreat
namespace Go.Proofs.YtgpdhgadmjfokaaGreat
open Go.RowKit
set_option maxRecDepth 100000
set_option maxHeartbeats 4000000
def Quj (f:Hdr→List Int):Option (List Int)→List Hdr→List Hdr
 | _,[]=>[]
 | p,y :: l=>if p=some (f y) then Quj f p l else y :: Quj f (some (f y)) l
section
variable {f:Hdr→List Int}{vs zs:List Hdr}{m k:Nat}{x y:Hdr}{l:List (List Int)}{i j n:Int}
end
end Go.Proofs.YtgpdhgadmjfokaaGreat
