/- The traces of a state graph: what the walk of the program needs. Plain law. -/
import Derived.Test.YtndabgcpnmeeoaaGreatOEd
set_option linter.unusedSimpArgs false
set_option linter.unusedVariables false
set_option linter.unusedSectionVars false
namespace Go.Proofs.YtndabgcpnmeeoaaGreat
open Go.RowKit
set_option maxRecDepth 100000
set_option maxHeartbeats 4000000
section
variable {c:DSg}{h:Int}{n k i j:Nat}{S set:List Int}{a:DAr}{rs as_:List DAr}{out:List Int}{s t:ByteArray}{u v:Int}{K M A D E L L1 L2:DLv}{p q:ByteArray×List Int}
theorem Qsb (m:S.Nodup)(b:∀u∈S,0≤u∧u < (n:Int)):S.length≤n:=by
 have d:(S.map Int.toNat).Nodup:=by
  unfold List.Nodup
  rw[bX]
  exact List.Pairwise.imp_of_mem (fun g l h e=>h (by have:=b _ g; have:=b _ l; omega)) m
 have f:(S.map Int.toNat) ⊆ List.range n:=fun x r=>by
  obtain ⟨u,o,rfl⟩:=aR.1 r
  have:=b u o
  exact dx.2 (by omega)
 have:=UY d f
 rwa [aB,List.length_range] at this
def clV (c:DSg)(h:Int)(S:List Int):List Int:=clL c.2.2 h 301 0 S
@[reducible] def Rng (c:DSg) (S:List Int):Prop:=S.Nodup∧∀u∈S,0≤u∧u < (c.2.1.length:Int)
theorem QvN (f:SgOk c)(e:Rng c S)(k:Ch c.2.2 h (fun v=>v∈S) v):0≤v∧v < (c.2.1.length:Int):=by
 induction k with
 | base b=>exact e.2 _ b
 | step _ d _ _=>exact QhI f d
theorem Qno (b:SgOk c)(d:Rng c S)(g:ClI c.2.2 h (fun v=>v∈S) k out):out.length≤300:=by
 have:=Qsb g.nod fun u e=>QvN b d (g.ch u e)
 have:=b.some_; omega
theorem QtQ (b:clL rs h (301 - k) k out=S)(d:out[k]? =some u)(e:k < 301):clL rs h (301 - (k+1)) (k+1) (clA rs h u out)=S:=by
 rw[show 301 - k=(301 - (k+1))+1 by omega,clL,d] at b; exact b
theorem QvP (b:clL rs h (301 - k) k out=S)(g:out.length≤k):out=S:=by
 have e:out[k]? =none:=bp g
 cases d:301 - k with
 | zero=>rw[d] at b; exact b
 | succ f=>rw[d,clL,e] at b; exact b
theorem Qrd (d:SgOk c)(b:Rng c S):∀(f:Nat) {k:Nat} {out:List Int},k+f=301→ClI c.2.2 h (fun v=>v∈S) k out→(∀v,v∈clL c.2.2 h f k out↔Ch c.2.2 h (fun v=>v∈S) v)∧(clL c.2.2 h f k out).Nodup
 | 0,k,out,e,g=>by have m:=g.le; have o:=Qno d b g; omega
 | f+1,k,out,e,g=>by
  rw[clL]
  cases l:out[k]? with
  | none=>exact ⟨g.end_ (cU.1 l),g.nod⟩
  | some u=>exact Qrd d b f (by omega) (g.step l)
theorem Qre (d:SgOk c)(b:Rng c S):(∀v,v∈clV c h S↔Ch c.2.2 h (fun v=>v∈S) v)∧(clV c h S).Nodup:=Qrd d b 301 (cd _) (ClI.zero b.1 fun _=>Iff.rfl)
theorem QxD (b:out[k]? =some u)(d:(clA as_ h u out)[k]? =some v):v=u:=by
 obtain ⟨r,e⟩:=Qbd (as_:=as_) (h:=h) (u:=u) (S:=out)
 rw[e,bf (ah.1 b).1,b] at d
 cases d; rfl
theorem QxE:out.length≤(clA as_ h u out).length:=by
 obtain ⟨r,b⟩:=Qbd (as_:=as_) (h:=h) (u:=u) (S:=out)
 rw[b,ae]; omega
theorem QvL:(clA as_ h u out).length≤out.length+as_.length:=by
 unfold clA
 induction as_ generalizing out with
 | nil=>exact aL _
 | cons a l b=>
  rw[bh]
  split
  ·have:=b (out:=out++[a.2.2.2]); simp only[ae,aq,az] at this ⊢; omega
  ·have:=b (out:=out); simp only[aq]; omega
theorem Qba (b:rs[i]? =some a):clA (rs.take (i+1)) h u out=if a.1=u∧inv h a=true∧¬a.2.2.2∈clA (rs.take i) h u out then clA (rs.take i) h u out++[a.2.2.2] else clA (rs.take i) h u out:=by
 rw[Qs b]; unfold clA
 rw[bK]; rfl
theorem QkR {l:List Int}(k:(l.any fun y=>decide (v=y))=false):¬v∈l:=fun b=>by
 have:=cC.1 k v b
 simp at this
theorem QqU {l:List Int}(k:(l.any fun y=>decide (v=y))=true):v∈l:=by
 obtain ⟨y,b,e⟩:=bW.1 k
 rw[ab e]; exact b
theorem QgG (f:rs[i]? =some a)(b:a.1=u)(d:a.2.1= -1)(e:((clA (rs.take i) h u out).any fun y=>decide (a.2.2.2=y))=false):clA (rs.take i) h u out++[a.2.2.2]=clA (rs.take (i+1)) h u out:=by rw[Qba f,if_pos ⟨b,Qg5.2 (.inl d),QkR e⟩]
theorem QgH (f:rs[i]? =some a)(b:a.1=u)(d:a.2.1=h)(e:((clA (rs.take i) h u out).any fun y=>decide (a.2.2.2=y))=false):clA (rs.take i) h u out++[a.2.2.2]=clA (rs.take (i+1)) h u out:=by rw[Qba f,if_pos ⟨b,Qg5.2 (.inr d),QkR e⟩]
theorem QgD (d:rs[i]? =some a)(b:¬a.1=u):clA (rs.take i) h u out=clA (rs.take (i+1)) h u out:=by rw[Qba d,if_neg (fun g=>b g.1)]
theorem QgE (e:rs[i]? =some a)(b:¬a.2.1= -1)(d:¬a.2.1=h):clA (rs.take i) h u out=clA (rs.take (i+1)) h u out:=by rw[Qba e,if_neg (fun g=>(Qg5.1 g.2.1).elim b d)]
theorem QgF (d:rs[i]? =some a)(b:((clA (rs.take i) h u out).any fun y=>decide (a.2.2.2=y))=true):clA (rs.take i) h u out=clA (rs.take (i+1)) h u out:=by rw[Qba d,if_neg (fun g=>g.2.2 (QqU b))]
def edT (ss:List QB)(l:Int×Bool):ByteArray:=if l.1 < 0 then ⟨#[126]⟩ else ((ss[l.1.toNat]?).getD (ByteArray.empty,0)).1++sgB l.2
theorem QxL (b:0≤a.2.1):edT c.1 (a.2.1,a.2.2.1)=wdA c a:=by unfold edT; rw[if_neg (by dsimp only; omega)]; rfl
def afT (c:DSg)(S:List Int)(h:Int)(i:Nat):DLv:=(c.2.2.take i).foldl (afS c S h) []
theorem Qm5 (hi:c.2.2.length≤i):afT c S h i=afV c S h:=by unfold afT afV; rw[aJ hi]
theorem Qa6 (b:c.2.2[i]? =some a):afT c S h (i+1)=afS c S h (afT c S h i) a:=by unfold afT; rw[Qs b,bK]; rfl
theorem Qty (f:c.2.2[i]? =some a)(e:(S.any fun y=>decide (a.1=y))=true)(b:¬a.2.1= -1)(d:¬a.2.1=h)(h0:0≤a.2.1):Yl .str (afT c S h i) (edT c.1 (a.2.1,a.2.2.1)) (((YD .str (afT c S h i) (edT c.1 (a.2.1,a.2.2.1))).getD [])++[a.2.2.2])=afT c S h (i+1):=by
 rw[Qa6 f,QxL h0,afS,if_pos ⟨QqU e,Qfj.2 ⟨b,d⟩⟩]
theorem Qm7 (d:c.2.2[i]? =some a)(b:(S.any fun y=>decide (a.1=y))=false):afT c S h i=afT c S h (i+1):=by rw[Qa6 d,afS,if_neg fun g=>QkR b g.1]
theorem Qm8 (d:c.2.2[i]? =some a)(b:a.2.1= -1):afT c S h i=afT c S h (i+1):=by rw[Qa6 d,afS,if_neg fun g=>(Qfj.1 g.2).1 b]
theorem Qm9 (d:c.2.2[i]? =some a)(b:a.2.1=h):afT c S h i=afT c S h (i+1):=by rw[Qa6 d,afS,if_neg fun g=>(Qfj.1 g.2).2 b]
theorem Qtw (g:∀z,((YD .str A z).getD []).length≤n):∀z,((YD .str (afS c S h A a) z).getD []).length≤n+1:=fun z=>by
 unfold afS
 split
 ·rw[V2]
  split
  ·have:=g (wdA c a); simp only[aj,ae,aq,az]; omega
  ·have:=g z; omega
 ·have:=g z; omega
theorem Qm6:∀(l:List DAr) {n:Nat} {A:DLv},(∀z,((YD .str A z).getD []).length≤n)→∀z,((YD .str (l.foldl (afS c S h) A) z).getD []).length≤n+l.length
 | [],_,_,g=>g
 | a :: l,n,_,g=>fun z=>by
  have:=Qm6 l (Qtw (c:=c) (S:=S) (h:=h) (a:=a) g) z
  simp only[bh,aq] at this ⊢; omega
theorem QqO (z:ByteArray):((YD .str (afT c S h i) z).getD []).length≤i:=by
 have:=Qm6 (c:=c) (S:=S) (h:=h) (c.2.2.take i) (n:=0) (A:=[]) (fun z=>aL _) z
 simp only[ao] at this
 unfold afT; omega
theorem QvF (l:SgOk c)(f:p∈afV c S h):p.2.length≤4000:=by
 have g:=Qb2 (c:=c) (h:=h) (S:=S)
 obtain ⟨j,e⟩:=aO.1 f
 have d:=UN (k:= .str) g.nod e rfl
 have b:=QqO (c:=c) (S:=S) (h:=h) (i:=c.2.2.length) p.1
 rw[Qm5 (aL _),d] at b
 have:=l.few
 simp only[aj] at b; omega
theorem QqP (e:SgOk c)(d:p∈afV c S h):Rng c (ofG ltI p.2):=by
 refine ⟨QcM (HK X4 _),fun u f=> ?_⟩
 obtain ⟨a,b,_,_,_,rfl⟩:=(((Qb2 (c:=c) (h:=h) (S:=S)).mem p d).2 u).1 ((WC X4 _).1 f)
 exact QhI e b
theorem Qtx (d:SgOk c)(b:p∈afV c S h):p.1.size≤7:=by
 have g:=(Qb2 (c:=c) (h:=h) (S:=S)).mem p b
 obtain ⟨v,f⟩:=g.1
 obtain ⟨a,_,_,_,e,_⟩:=(g.2 v).1 f
 rw[← e]; exact Qf4 d
theorem Qkb (b:SgOk c):Rng c [0]:=⟨by simp,fun u d=>by rw[aC] at d; have:=b.some_; omega⟩
theorem Qr3 (e:SgOk c):Lev c h 0 [(ByteArray.empty,clV c h [0])]:=by
 have g:=(Qre (h:=h) e (Qkb e)).1
 have b:∀v,v∈clV c h [0]↔Ch c.2.2 h (fun v=>v=0) v:=fun v=>(g v).trans (Ch.congr fun v=>aC)
 refine ⟨cG ..,fun p d=> ?_,fun t u f=>⟨_,aC.2 rfl,(Jc.1 f).1.symm⟩⟩
 rw[aC] at d; subst d
 exact ⟨⟨0,(b 0).2 (.base rfl)⟩,fun u=>(b u).trans ⟨fun k=>Jc.2 ⟨rfl,k⟩,fun k=>(Jc.1 k).2⟩⟩
theorem QcD (g:(D++L).Perm K)(e:L=L1++q :: L2):((D++[q])++(L1++L2)).Perm K:=by
 subst e
 refine List.Perm.trans ?_ g
 rw[aK]
 refine List.Perm.append_left _ ?_
 exact (List.perm_middle (a:=q) (l₁:=L1) (l₂:=L2)).symm
theorem HQ (g:(D++L).Perm K)(e:L=L1++q :: L2):q∈K:=g.mem_iff.1 (by rw[e]; simp)
theorem Qn6 (g:(D++L).Perm K):∀x∈D,x∈K:=fun x b=>g.mem_iff.1 (aH _ b)
theorem Qn7 (g:(D++L).Perm K)(d:K.Pairwise fun p q=>p.1≠q.1)(e:L=L1++q :: L2):∀x∈D,x.1≠q.1:=fun x f=>by
 have b:=g.symm.pairwise d fun h e=>h e.symm
 exact (List.pairwise_append.1 b).2.2 x f q (by rw[e]; simp)
theorem QfE (g:(D++L).Perm K)(e:L=[]):D.Perm K:=by rw[e,bG] at g; exact g
theorem Qu8 (g:D.Perm K):Vs c h D s v↔Vs c h K s v:=by
 unfold Vs
 exact ⟨fun ⟨q,b,k⟩=>⟨q,g.mem_iff.1 b,k⟩,fun ⟨q,b,k⟩=>⟨q,g.mem_iff.2 b,k⟩⟩
theorem Qu6:Vm c h D q (E++[p]) s v↔Vm c h D q E s v∨(s=q.1++p.1∧v∈p.2):=by
 unfold Vm
 constructor
 ·rintro (k | ⟨x,b,k⟩)
  ·exact .inl (.inl k)
  ·rcases aG.1 b with b | b
   ·exact .inl (.inr ⟨x,b,k⟩)
   ·rw[aC] at b; subst b; exact .inr k
 ·rintro ((k | ⟨x,b,k⟩) | k)
  ·exact .inl k
  ·exact .inr ⟨x,aH _ b,k⟩
  ·exact .inr ⟨p,aN _ (aC.2 rfl),k⟩
theorem QuA:NxI c h (Vs c h []) []:=NxI.zero.congr fun s v=>by simp[Vs]
theorem Qx8 (g:NxI c h (Vs c h D) M):NxI c h (Vm c h D q []) M:=g.congr fun _ _=>Qu7.symm
theorem Quz (f:SgOk c)(r:Lev c h n K)(g:NxI c h (Vm c h D q E) M)(b:(D++L).Perm K)(m:L=L1++q :: L2){R w x:DLv}(d:(E++R).Perm (afV c q.2 h))(l:R=w++p :: x):NxI c h (Vm c h D q (E++[p])) (Yl .str M (q.1++p.1) (clV c h (ofG ltI p.2))):=by
 have o:=Qb2 (c:=c) (h:=h) (S:=q.2)
 have e:=HQ d l
 refine (g.step (W:=fun v=>v∈p.2) (Qw3 f r (Qn6 b) (HQ b m) (Qn7 b r.nod m) (Qn6 d) e (Qn7 d o.nod l)) (fun u=>((Qre f (QqP f e)).1 u).trans (Ch.congr fun v=>WC X4 _)) ((o.mem p e).1)).congr fun s v=>Qu6.symm
theorem Qwr (g:NxI c h (Vm c h D q E) M){R:DLv}(b:(E++R).Perm (afV c q.2 h))(e:R=[]):NxI c h (Vs c h (D++[q])) M:=g.congr fun _ _=>Qw2 fun _=>(QfE b e).mem_iff
theorem Qwq (f:Lev c h n K)(g:NxI c h (Vs c h D) M)(d:(D++L).Perm K)(e:L=[]):Lev c h (n+1) M:=by
 have b:NxI c h (Vs c h K) M:=g.congr fun _ _=>Qu8 (QfE d e)
 exact f.next b.nod b.mem b.all
theorem Qur (e:SgOk c)(b:Lev c h n K)(d:q∈K):q.1.size≤7*n:=by
 obtain ⟨u,f⟩:=(b.mem q d).1
 exact QoD e (((b.mem q d).2 u).1 f)
theorem Qwx (b:SgOk c){out:List ByteArray}(g:OuI c h n out):Us out=txL c h n:=
 W2.ext (QsT g.nod) (QdZ W2 n) fun t=>by rw[(Jb out).mem_iff,g.mem,Je b]
end
end Go.Proofs.YtndabgcpnmeeoaaGreat
