/- Quiescent regions. Plain law. -/
import Derived.Test.YtndabgcpnmeeoaaGreatMGe
import Derived.Test.YtndabgcpnmeeoaaGreatMGa
import Derived.Test.YtndabgcpnmeeoaaGreatMDm
import Derived.Test.YtndabgcpnmeeoaaGreatMDg
set_option linter.unusedSimpArgs false
set_option linter.unusedVariables false
set_option linter.unusedSectionVars false
namespace Go.Proofs.YtndabgcpnmeeoaaGreat
open Go.RowKit
set_option maxRecDepth 100000
set_option maxHeartbeats 4000000
def adQ (c:DSg)(s:Int)(out:List Int)(k:Int):List Int:=if Zc c k s=false∧¬k∈out then out++[k] else out
def qJ (c:DSg)(l:Int×Bool)(R out:List Int)(a:DAr):List Int:=if a.2.1=l.1∧a.2.2.1=l.2∧a.1∈R then adQ c l.1 out a.2.2.2 else out
def qU (c:DSg)(s u:Int)(out:List Int)(a:DAr):List Int:=if a.1=u then adQ c s out a.2.2.2 else out
def qE (c:DSg)(s:Int):List DAr:=(c.2.2.filter fun a=> !Zc c a.2.2.2 s).map fun a=>(a.1, -1,false,a.2.2.2)
def qQ (c:DSg)(s:Int)(R:List Int)(v:Int):Prop:=∃a∈c.2.2,a.2.1=s∧a.1∈R∧Zc c a.2.2.2 s=false∧a.2.2.2=v
abbrev QC (c:DSg)(s:Int)(R:List Int)(v:Int):Prop:=Ch (qE c s) (-1) (qQ c s R) v
noncomputable def qV (c:DSg) (s:Int) (R:List Int):List Int:=((List.range c.2.1.length).map fun k:Nat=>(k:Int)).filter fun v=> @decide (QC c s R v) (Classical.propDecidable _)
def chi (n:Nat)(S:List Int):List Bool:=(List.range n).map fun k:Nat=>decide ((k:Int)∈S)
def qZ (c:DSg)(s:Int)(R S:List Int)(a:DAr):List Int:=if a.1∈R∧a.2.1=s∧Zc c a.2.2.2 s=false then Z8 ltI a.2.2.2 S else S
def qT (c:DSg)(s:Int)(S:List Int)(a:DAr):List Int:=if a.1∈S∧Zc c a.2.2.2 s=false then Z8 ltI a.2.2.2 S else S
def qR (c:DSg)(s:Int)(S:List Int):List Int:=c.2.2.foldl (qT c s) S
def chF (S:List Int)(k:Nat):Option Int:=if (k:Int)∈S then some (k:Int) else none
section
variable {c:DSg}{as_:List DAr}{a b:DAr}{l:Int×Bool}{R S out:List Int}{s u v q x:Int}{k i j n m:Nat}{B:Bool}
theorem QtW:b∈qE c s↔b.2.1= -1∧b.2.2.1=false∧∃a∈c.2.2,Zc c a.2.2.2 s=false∧b.1=a.1∧b.2.2.2=a.2.2.2:=by
 unfold qE
 rw[ba]
 constructor
 ·rintro ⟨a,h,rfl⟩
  rw[bl] at h
  exact ⟨rfl,rfl,a,h.1,by simpa using h.2,rfl,rfl⟩
 ·obtain ⟨r,t,w,y⟩:=b
  rintro ⟨d,e,a,o,p,f,g⟩
  simp only at d e f g
  subst d; subst e; subst f; subst g
  exact ⟨a,bl.2 ⟨o,by simp[p]⟩,rfl⟩
theorem QiR (f:∀a∈c.2.2,InR c.2.1.length a)(h:b∈qE c s):0≤b.2.2.2∧b.2.2.2 < (c.2.1.length:Int):=by
 obtain ⟨_,_,a,d,_,_,e⟩:=QtW.1 h
 rw[e]; exact (f a d).2
theorem QgF (e:∀a∈c.2.2,InR c.2.1.length a)(h:QC c s R v):0≤v∧v < (c.2.1.length:Int):=by
 cases h with
 | base d=>obtain ⟨a,d,_,_,_,rfl⟩:=d; exact (e a d).2
 | step _ f _=>exact QiR e f
theorem QuD (d:∀a∈c.2.2,InR c.2.1.length a):v∈qV c s R↔QC c s R v:=by
 unfold qV
 rw[bl, @dE _ (Classical.propDecidable _)]
 refine ⟨fun h=>h.2,fun h=>⟨?_,h⟩⟩
 have:=QgF d h
 exact ba.2 ⟨v.toNat,bD.2 (by omega),by omega⟩
theorem QrD:Srt ((List.range n).map fun k:Nat=>(k:Int)):=by
 unfold Srt
 rw[dH]
 exact List.pairwise_lt_range.imp fun h=>by simp only[ltI,aT]; omega
theorem QuP:Srt (qV c s R):=QrD.filter _
theorem Qtm (e:∀a∈c.2.2,InR c.2.1.length a)(d:Srt S)(h:∀v,v∈S↔QC c s R v):S=qV c s R:=ZS.ext d QuP fun v=>by rw[h,QuD e]
theorem Qxp (d:SgOk c)(h:a∈c.2.2)(hb:b∈c.2.2)(r:a.1=b.1)(t:a.2.1=b.2.1)(g:0≤a.2.1∧a.2.1≤(c.1.length:Int) - 1):a.2.2.1=b.2.2.1:=by
 have w:=(d.arcs a h).1
 obtain ⟨e,o⟩:∃z,c.2.1[a.1.toNat]? =some z:=⟨_,aj (by omega)⟩
 have p:=Qce d h rfl rfl g o
 have f:=Qce d hb r.symm t.symm g o
 rw[p] at f
 simpa using f
theorem Qup (z:SgOk c)(t:0≤l.1∧l.1≤(c.1.length:Int) - 1)(w:∀q∈R,q∈xS c.2.2 l)(d:∀a∈as_,a∈c.2.2):v∈as_.foldl (qJ c l R) out↔v∈out∨∃a∈as_,a.2.1=l.1∧a.1∈R∧Zc c a.2.2.2 l.1=false∧a.2.2.2=v:=by
 induction as_ generalizing out with
 | nil=>simp
 | cons a as_ A=>
  rw[aN,A fun b y=>d b (aw _ y)]
  have o:a.2.1=l.1→a.1∈R→a.2.2.1=l.2:=fun p f=>by
   obtain ⟨b,C,D,E,F⟩:=QgI.1 (w _ f)
   rw[← E]
   exact Qxp z (d a (ax ..)) C F.symm (by rw[p,D]) (by rw[p]; exact t)
  have e:v∈qJ c l R out a↔v∈out∨(a.2.1=l.1∧a.1∈R∧Zc c a.2.2.2 l.1=false∧a.2.2.2=v):=by
   unfold qJ adQ
   split
   ·rename_i g
    split
    ·rename_i f
     rw[aM,aD]
     exact ⟨fun h=>h.imp id fun h=>⟨g.1,g.2.2,f.1,h.symm⟩,fun h=>h.imp id fun h=>h.2.2.2.symm⟩
    ·rename_i f
     refine ⟨.inl,fun h=>h.elim id fun h=> ?_⟩
     rw[← h.2.2.2]
     exact cy fun r=>f ⟨h.2.2.1,r⟩
   ·rename_i g
    exact ⟨.inl,fun h=>h.elim id fun h=>absurd ⟨h.1,o h.1 h.2.1,h.2.1⟩ g⟩
  rw[e]
  simp only[aC,exists_eq_or_imp]
  rw[or_assoc]
theorem Qso (h:out.Nodup):(adQ c s out q).Nodup:=by
 unfold adQ; split
 ·rename_i g; exact bi.2 ⟨h,by simp,fun x f y d e=>by rw[aD] at d; subst d; subst e; exact g.2 f⟩
 ·exact h
theorem Qw1 (h:out.Nodup):(as_.foldl (qJ c l R) out).Nodup:=by
 induction as_ generalizing out with
 | nil=>exact h
 | cons a as_ d=>rw[aN]; refine d ?_; unfold qJ; split; exact Qso h; exact h
theorem Qmr:(adQ c s out q).length≤out.length+1:=by unfold adQ; split <;> simp
theorem Que:(as_.foldl (qJ c l R) out).length≤out.length+as_.length:=by
 induction as_ generalizing out with
 | nil=>exact aK _
 | cons a as_ d=>
  rw[aN,au]
  have e:=d (out:=qJ c l R out a)
  have f:(qJ c l R out a).length≤out.length+1:=by unfold qJ; split; exact Qmr; omega
  omega
theorem Quv:(as_.foldl (qU c s u) out).length≤out.length+as_.length:=by
 induction as_ generalizing out with
 | nil=>exact aK _
 | cons a as_ d=>
  rw[aN,au]
  have e:=d (out:=qU c s u out a)
  have f:(qU c s u out a).length≤out.length+1:=by unfold qU; split; exact Qmr; omega
  omega
theorem QrT:∃r,adQ c s out q=out++r:=by
 unfold adQ; split
 ·exact ⟨_,rfl⟩
 ·exact ⟨[],by simp⟩
theorem Qvh:∃r,as_.foldl (qU c s u) out=out++r:=by
 induction as_ generalizing out with
 | nil=>exact ⟨[],by simp⟩
 | cons a as_ f=>
  rw[aN]
  obtain ⟨r,e⟩:=f (out:=qU c s u out a)
  obtain ⟨g,d⟩:∃r,qU c s u out a=out++r:=by
   unfold qU; split
   ·exact QrT
   ·exact ⟨[],by simp⟩
  exact ⟨g++r,by rw[e,d,aU]⟩
theorem QvH (e:out[k]? =some x):(as_.foldl (qU c s u) out)[k]? =some x:=by
 obtain ⟨r,d⟩:=Qvh (c:=c) (s:=s) (u:=u) (as_:=as_) (out:=out)
 exact Qqh e d
theorem Qxf:c.2.2.foldl (qU c s u) out=clA (qE c s) (-1) u out:=by
 unfold clA qE
 have d:∀(as_:List DAr) (out:List Int),as_.foldl (qU c s u) out=((as_.filter fun a=> !Zc c a.2.2.2 s).map fun a=>((a.1, -1,false,a.2.2.2):DAr)).foldl (fun out a=>if a.1=u∧inv (-1) a=true∧¬a.2.2.2∈out then out++[a.2.2.2] else out) out:=fun as_=>by
  induction as_ with
  | nil=>intro _; rfl
  | cons a as_ g=>
   intro out
   rw[aN,g,cp]
   cases e:Zc c a.2.2.2 s with
   | true=>
    simp only[dY,bO,if_false]
    have:qU c s u out a=out:=by unfold qU adQ; rw[e]; simp
    rw[this]
   | false=>
    simp only[Bool.not_false,if_true,be,aN]
    congr 1
    unfold qU adQ
    rw[e]
    by_cases f:a.1=u <;> simp[f,inv]
 exact d _ _
theorem Qk4 (g:as_[k]? =some a)(d:a.2.1=l.1)(e:a.2.2.1=l.2)(f:R.any (fun y=>decide (a.1=y))=true):adQ c l.1 ((as_.take k).foldl (qJ c l R) out) a.2.2.2=(as_.take (k+1)).foldl (qJ c l R) out:=by
 rw[Qw g,bq,aN,bU]
 conv=>rhs; unfold qJ
 rw[if_pos ⟨d,e,QaP f⟩]
 rfl
theorem QfL (d:as_[k]? =some a)(h:¬(a.2.1=l.1∧a.2.2.1=l.2∧a.1∈R)):(as_.take k).foldl (qJ c l R) out=(as_.take (k+1)).foldl (qJ c l R) out:=by
 rw[Qw d,bq,aN,bU]
 conv=>rhs; unfold qJ
 rw[if_neg h]
 rfl
theorem Qre (e:as_[k]? =some a)(d:a.1=u):adQ c s ((as_.take k).foldl (qU c s u) out) a.2.2.2=(as_.take (k+1)).foldl (qU c s u) out:=by
 rw[Qw e,bq,aN,bU]
 conv=>rhs; unfold qU
 rw[if_pos d]
 rfl
theorem Qtr (e:as_[k]? =some a)(d:¬a.1=u):(as_.take k).foldl (qU c s u) out=(as_.take (k+1)).foldl (qU c s u) out:=by
 rw[Qw e,bq,aN,bU]
 conv=>rhs; unfold qU
 rw[if_neg d]
 rfl
theorem Qs9 (f:SgOk c)(d:0≤l.1∧l.1≤(c.1.length:Int) - 1)(e:∀q∈R,q∈xS c.2.2 l):ClI (qE c l.1) (-1) (qQ c l.1 R) 0 (c.2.2.foldl (qJ c l R) []):=
 ClI.zero (Qw1 bJ) fun v=>by
  rw[Qup f d e fun _ h=>h]
  simp[qQ]
theorem QtO (d:∀a∈c.2.2,InR c.2.1.length a)(h:ClI (qE c s) (-1) (qQ c s R) k out):out.length≤c.2.1.length:=by
 have g:(out.map Int.toNat).Nodup:=by
  unfold List.Nodup
  rw[dH]
  exact h.nod.imp_of_mem fun p r f e=>f (by have:=QgF d (h.ch _ p); have:=QgF d (h.ch _ r); omega)
 have o:=KX (m:=List.range c.2.1.length) g fun x w=>by
  obtain ⟨u,t,rfl⟩:=ba.1 w
  have:=QgF d (h.ch _ t)
  exact bD.2 (by omega)
 simpa using o
theorem QuO (e:∀a∈c.2.2,InR c.2.1.length a)(h:ClI (qE c s) (-1) (qQ c s R) k out)(d:out.length≤k):ofG ltI out=qV c s R:=
 Qtm e (UH ZS _) fun v=>by rw[X1 ZS]; exact h.end_ d v
theorem H1:(chi n S).length=n:=by simp[chi]
theorem QgU (h:(chi n S)[m]? =some B):∀q:Int,q.toNat=m→0≤q→B=decide (q∈S):=fun q p g=>by
 unfold chi at h
 rw[bg] at h
 obtain ⟨r,e,f⟩:=cj.1 h
 obtain ⟨o,d⟩:=ah.1 e
 rw[List.getElem_range] at d
 rw[← f,← d,show ((m:Nat):Int)=q by omega]
theorem Qlr (h0:0≤q)(f:q < (n:Int)):(chi n S).set q.toNat true=chi n (Z8 ltI q S):=by
 unfold chi
 apply List.ext_getElem
 ·simp
 ·intro i d e
  simp only[ay,aJ,List.length_range] at d
  rw[List.getElem_set]
  simp only[List.getElem_map,List.getElem_range]
  split
  ·rename_i g; exact (aE (Yr.2 (.inl (by omega)))).symm
  ·rename_i g
   rw[bX,Yr]
   exact ⟨.inr,fun h=>h.elim (fun h=>absurd h (by omega)) id⟩
theorem Qrp:List.replicate n false=chi n []:=by
 unfold chi
 apply List.ext_getElem
 ·simp
 ·intro i d e; simp
theorem Qhd (o:∀a∈c.2.2,InR c.2.1.length a)(e:c.2.2[k]? =some a)(f:a.1∈R)(g:a.2.1=s)(h:Zc c a.2.2.2 s=false):(chi c.2.1.length ((c.2.2.take k).foldl (qZ c s R) S)).set a.2.2.2.toNat true=chi c.2.1.length ((c.2.2.take (k+1)).foldl (qZ c s R) S):=by
 have d:=(o a (ae e)).2
 rw[Qlr d.1 d.2,Qw e,bq,aN,bU]
 conv=>rhs; unfold qZ
 rw[if_pos ⟨f,g,h⟩]
 rfl
theorem U9 (d:c.2.2[k]? =some a)(h:¬(a.1∈R∧a.2.1=s∧Zc c a.2.2.2 s=false)):chi n ((c.2.2.take k).foldl (qZ c s R) S)=chi n ((c.2.2.take (k+1)).foldl (qZ c s R) S):=by
 rw[Qw d,bq,aN,bU]
 conv=>rhs; unfold qZ
 rw[if_neg h]
 rfl
theorem Qja (h:∀a∈c.2.2,InR c.2.1.length a)(f:c.2.2[k]? =some a)(d:true=decide (a.1∈(c.2.2.take k).foldl (qT c s) S))(g:Zc c a.2.2.2 s=false):(chi c.2.1.length ((c.2.2.take k).foldl (qT c s) S)).set a.2.2.2.toNat true=chi c.2.1.length ((c.2.2.take (k+1)).foldl (qT c s) S):=by
 have e:=(h a (ae f)).2
 rw[Qlr e.1 e.2,Qw f,bq,aN,bU]
 generalize (c.2.2.take k).foldl (qT c s) S=o at d
 unfold qT
 rw[if_pos ⟨ab d.symm,g⟩]
theorem QfU (d:c.2.2[k]? =some a)(h:¬(a.1∈(c.2.2.take k).foldl (qT c s) S∧Zc c a.2.2.2 s=false)):chi n ((c.2.2.take k).foldl (qT c s) S)=chi n ((c.2.2.take (k+1)).foldl (qT c s) S):=by
 rw[Qw d,bq,aN,bU]
 generalize (c.2.2.take k).foldl (qT c s) S=o at h
 unfold qT
 rw[if_neg h]
theorem QvP:qR c s S=stP (-1) (qE c s) S:=by
 unfold qR stP qE
 have d:∀(as_:List DAr) (S:List Int),as_.foldl (qT c s) S=((as_.filter fun a=> !Zc c a.2.2.2 s).map fun a=>((a.1, -1,false,a.2.2.2):DAr)).foldl (stS (-1)) S:=fun as_=>by
  induction as_ with
  | nil=>intro _; rfl
  | cons a as_ g=>
   intro S
   rw[aN,g,cp]
   cases e:Zc c a.2.2.2 s with
   | true=>
    simp only[dY,bO,if_false]
    have:qT c s S a=S:=by unfold qT; rw[e]; simp
    rw[this]
   | false=>
    simp only[Bool.not_false,if_true,be,aN]
    congr 1
    unfold qT stS
    rw[e]
    by_cases f:a.1∈S <;> simp[f,inv]
 exact d _ _
theorem Qo4:∀{j:Nat},Q3 (qR c s) j S=stN (-1) (qE c s) j S
 | 0=>rfl
 | j+1=>by rw[Q3,Qo4,QvP]; rfl
theorem Qt5 (h:Srt S):Srt (as_.foldl (qZ c s R) S):=by
 induction as_ generalizing S with
 | nil=>exact h
 | cons a as_ d=>rw[aN]; refine d ?_; unfold qZ; split; exact Ur ZS h; exact h
theorem Qu0:v∈as_.foldl (qZ c s R) S↔v∈S∨∃a∈as_,a.2.1=s∧a.1∈R∧Zc c a.2.2.2 s=false∧a.2.2.2=v:=by
 induction as_ generalizing S with
 | nil=>simp
 | cons a as_ d=>
  rw[aN,d]
  have e:v∈qZ c s R S a↔v∈S∨(a.2.1=s∧a.1∈R∧Zc c a.2.2.2 s=false∧a.2.2.2=v):=by
   unfold qZ
   split
   ·rename_i g
    rw[Yr]
    exact ⟨fun h=>h.elim (fun h=> .inr ⟨g.2.1,g.1,g.2.2,h.symm⟩) .inl,fun h=>h.elim .inr fun h=> .inl h.2.2.2.symm⟩
   ·rename_i g
    exact ⟨.inl,fun h=>h.elim id fun h=>absurd ⟨h.2.1,h.1,h.2.2.1⟩ g⟩
  rw[e]
  simp only[aC,exists_eq_or_imp]
  rw[or_assoc]
theorem QtQ (d:Srt S)(e:∀u∈S,0≤u∧u < (n:Int)):rg (chF S) n=S:=by
 refine ZS.ext (Qgi fun i y h=>by unfold chF at h; split at h; exact (di h).symm; cases h) d fun v=> ?_
 rw[Qg0]
 unfold chF
 constructor
 ·rintro ⟨j,_,h⟩
  split at h
  ·rename_i g; cases h; exact g
  ·cases h
 ·intro h
  have:=e v h
  exact ⟨v.toNat,by omega,by rw[show ((v.toNat:Nat):Int)=v by omega,if_pos h]⟩
theorem Qvg (e:∀a∈c.2.2,InR c.2.1.length a)(t:c.2.1.length≤k)(p:k≤c.2.1.length):rg (chF (Q3 (qR c s) c.2.1.length (c.2.2.foldl (qZ c s R) []))) k=qV c s R:=by
 obtain rfl:k=c.2.1.length:=by omega
 have f:Srt (c.2.2.foldl (qZ c s R) []):=Qt5 ce
 have h:∀v,v∈c.2.2.foldl (qZ c s R) []↔qQ c s R v:=fun v=>by rw[Qu0]; simp[qQ]
 have d:∀u∈c.2.2.foldl (qZ c s R) [],0≤u∧u < (c.2.1.length:Int):=fun u r=>by
  obtain ⟨a,o,_,_,_,rfl⟩:=(h u).1 r
  exact (e a o).2
 rw[Qo4,QtQ (UN f) (QmB (fun a g=>QiR e g) d)]
 refine Qtm e (UN f) fun v=> ?_
 rw[Qev f (fun a g=>QiR e g) d]
 exact Ch.congr h
theorem Qmd (h:true=decide ((k:Int)∈S)):rg (chF S) k++[(k:Int)]=rg (chF S) (k+1):=rgN (by unfold chF; rw[if_pos (ab h.symm)])
theorem QoO (h:false=decide ((k:Int)∈S)):rg (chF S) k=rg (chF S) (k+1):=Zq (by unfold chF; rw[if_neg (aa h.symm)])
theorem Qcg (d:∀a∈c.2.2,InR c.2.1.length a):(regV c.2.2 (xS c.2.2 l)).length≤c.2.1.length:=by
 unfold regV
 rw[aJ]
 exact bu (bM ..) (QoM d)
end
end Go.Proofs.YtndabgcpnmeeoaaGreat
namespace Go.Proofs.YtndabgcpnmeeoaaGreat
open Go.RowKit
set_option maxRecDepth 100000
set_option maxHeartbeats 4000000
theorem Qdw {b:Bool}(h:b=true)(g:b=false):False:=by rw[h] at g; cases g
theorem Qwy {c:DSg}{s k:Int}{out:List Int}(a:Zc c k s=false)(b:out.any (fun y=>decide (k=y))=false):out++[k]=adQ c s out k:=(if_pos ⟨a,VU b⟩).symm
theorem QuM {c:DSg}{s k:Int}{out:List Int}(a:Zc c k s=true):out=adQ c s out k:=(if_neg fun g=>by rw[a] at g; cases g.1).symm
theorem Qum {c:DSg}{s k:Int}{out:List Int}(a:out.any (fun y=>decide (k=y))=true):out=adQ c s out k:=(if_neg fun g=>g.2 (QaP a)).symm
theorem WX (k:Int)(c:ZX)(l:Int×Bool)(out:List Int)(n:out.length≤1000000000):FC Tryz.prog 348 [(false,[dI k]),(false,[.ptr 0 0]),(false,[.ptr 1 0]),(false,[.ptr 2 0])] [bx 0 28 [.dat Ql c.1, .dat Qj c.2.1, .dat Qv c.2.2],bx 1 75 [dI l.1,dB l.2],bx 2 123 [.ref 3],ar 3 3 .int out] 3 (Is (PV.tup []) [bx 0 28 [.dat Ql c.1, .dat Qj c.2.1, .dat Qv c.2.2],bx 1 75 [dI l.1,dB l.2],bx 2 123 [.ref 3],ar 3 3 .int (adQ c l.1 out k)]):=by
 refine Qp Tryz.func348 rfl rfl Tryz.ntmps348 fun j a i b m f d=> ?_
 refine acI 0 fun _=> ?_
 refine w5 ?_
 refine alI 8 fun _=> ?_
 refine lc (dK (H4 c k l.1) Qjp) ?_
 refine w2 ?_
 cases g:(Zc c k l.1)
 refine w2 ?_
 refine lgy rfl rfl (dB_ (QG out k) YA) ?_
 refine w3 ?_
 cases h:(out.any (fun y=>decide (k=y)))
 refine w4 ?_
 refine lc (dBs 4 (e:= .int) Yt) ?_
 refine lc (dA 5 XC) ?_
 refine w_ ?_
 refine Qb ?_
 refine (?_:fin _ _ _ _ .normal _)
 exact fi_ [(3,5)] a ⟨rfl,rfl,rfl,(Qk (by exact Qwy ‹_› ‹_›)),trivial⟩
 refine w2 ?_
 refine (?_:fin _ _ _ _ .normal _)
 exact fi_ [] a ⟨rfl,rfl,rfl,(Qk (by exact Qum ‹_›)),trivial⟩
 refine w8 ?_
 refine (?_:fin _ _ _ _ .normal _)
 exact fi_ [] a ⟨rfl,rfl,rfl,(Qk (by exact QuM ‹_›)),trivial⟩
theorem VP (c:ZX)(l:Int×Bool)(b:List Int)(E:SgOk c)(V:0≤l.1∧l.1≤(c.1.length:Int) - 1)(S:∀q∈b,q∈xS c.2.2 l):FC Tryz.prog 212 [(true,[.dat Ql c.1, .dat Qj c.2.1, .dat Qv c.2.2]),(true,[dI l.1,dB l.2]),(false,[.dat Qi b])] [] 0 (YV 3 .int (qV c l.1 b)):=by
 have J:∀a∈c.2.2,InR c.2.1.length a:=fun a T=>ZL (E.arcs a T)
 have a1:=E.some_
 have U:=E.few
 have h8:=E.sigs.2.2
 refine Qp Tryz.func212 rfl rfl Tryz.ntmps212 fun O_ Q a6 N X_ P O=> ?_
 refine acG 1 0 fun _=> ?_
 refine w_ ?_
 refine xbx 0 ?_
 refine xbx 1 ?_
 refine w3 ?_
 refine lc (dBs 2 (e:= .int) Yt) ?_
 refine lc (xal 3 Qi YR) ?_
 refine w3 ?_
 refine lc (YZ ⟨_,_,rfl,(Qa rfl),rfl,⟨_,_,rfl,(Qa rfl),rfl,⟨_,_,rfl,(Qa rfl),rfl,rfl⟩⟩⟩ rfl) ?_
 refine w6 ?_
 refine alL 17 fun _=> ?_
 refine w4 ?_
 refine lp0 c.2.2.length (fun k=>⟨[(2,lf (.dat Qi b)),(3,lP 0 0),(4,lP 1 0),(6,lf (.val (.slice none 0 0))),(7,lP 3 0),(8,lf (.clo 348 [0,1,3])),(17,lf (.dat Qv c.2.2)),(18,lI (c.2.2.length:Int)),(19,lI (k:Int))],[bx 0 28 [.dat Ql c.1, .dat Qj c.2.1, .dat Qv c.2.2],bx 1 75 [dI l.1,dB l.2],bx 3 123 [.ref 4],(4,some (.arr 3 .int ((c.2.2.take k).foldl (qJ c l b) [])))]⟩) ?_ fun k _=> ?_
 exact wp [(4,2)] ⟨rfl,rfl,rfl,(Qk (rfl)),trivial⟩
 have X:=Que (c:=c) (l:=l) (R:=b) (as_:=c.2.2.take k) (out:=[])
 have Y:(c.2.2.take k).length≤c.2.2.length:=by simp only[ap]; omega
 have W:([]:List Int).length=0:=rfl
 refine w4 ?_
 cases A:(decide ((k:Int) < (c.2.2.length:Int)))
 have B:=aa A
 refine w8 ?_
 refine QD (fun L M=>∃(k:Nat) (h:List Int),k≤c.2.1.length∧L=c.2.1.length - k∧(ClI (qE c l.1) (-1) (qQ c l.1 b) k h)∧M=⟨[(3,lP 0 0),(6,lf (.val (.slice none 0 0))),(7,lP 3 0),(8,lf (.clo 348 [0,1,3])),(11,lI (k:Int))],[bx 0 28 [.dat Ql c.1, .dat Qj c.2.1, .dat Qv c.2.2],bx 1 75 [dI l.1,dB l.2],bx 3 123 [.ref 5],(5,some (.arr 3 .int h))]⟩) ⟨0,(c.2.2.take k).foldl (qJ c l b) [],aP _,rfl,(by rw[Za (by omega)]; exact Qs9 E V S),rfl⟩ ?_ ?_
 exact wp [(5,4)] ⟨rfl,rfl,rfl,(Qk (by first | rfl | simp)),trivial⟩
 rintro L M ⟨k,h,Z,a0,H,rfl⟩
 have a2:=QtO J H
 refine w7 ?_
 cases C:(decide ((k:Int) < (h.length:Int)))
 have D:=aa C
 refine w5 ?_
 refine lc (dP 6 [(0,5)] (Qau h (by omega)) Hy) ?_
 refine w2 ?_
 refine Qd<|fo_ Q ?_
 exact QuO J H (by omega)
 have D:=ab C
 refine w4 ?_
 refine Zy ?_
 obtain ⟨u,K⟩:=gx h k
 refine w3 ?_
 refine alL 45 fun _=> ?_
 refine w4 ?_
 refine lp0 c.2.2.length (fun i=>⟨[(3,lP 0 0),(6,lf (.val (.slice none 0 0))),(7,lP 3 0),(8,lf (.clo 348 [0,1,3])),(11,lI (k:Int)),(38,lI (k:Int)),(40,lI (h.length:Int)),(41,lB true),(44,lP 0 2),(45,lf (.dat Qv c.2.2)),(46,lI (c.2.2.length:Int)),(47,lI (i:Int))],[bx 0 28 [.dat Ql c.1, .dat Qj c.2.1, .dat Qv c.2.2],bx 1 75 [dI l.1,dB l.2],bx 3 123 [.ref 7],(7,some (.arr 3 .int ((c.2.2.take i).foldl (qU c l.1 u) h)))]⟩) ?_ fun i _=> ?_
 exact wp [(7,5)] ⟨rfl,rfl,rfl,(Qk (rfl)),trivial⟩
 have a4:=Quv (c:=c) (s:=l.1) (u:=u) (as_:=c.2.2.take i) (out:=h)
 have a5:(c.2.2.take i).length≤c.2.2.length:=by simp only[ap]; omega
 have F:((c.2.2.take i).foldl (qU c l.1 u) h)[k]? =some u:=QvH K
 have a3:=(ah.1 F).1
 refine w4 ?_
 cases o:(decide ((i:Int) < (c.2.2.length:Int)))
 have x:=aa o
 refine w7 ?_
 refine Qb<|Zb ⟨k+1,((c.2.2.take i).foldl (qU c l.1 u) h),by omega,rfl,(by rw[Za (by omega),Qxf]; exact H.step K),rfl⟩ (by omega) ?_
 exact wp [(5,7)] ⟨rfl,rfl,rfl,(Qk (by first | rfl | simp)),trivial⟩
 have x:=ab o
 refine w5 ?_
 obtain ⟨ar,G⟩:=gx c.2.2 i
 have m:=G
 refine w2 ?_
 refine lc (xal 8 YE ZG) ?_
 refine w2 ?_
 apply dW (i4 51 _ _ _ _ [io 55 (lf (.ept 7 1 k 0)),io 56 (lI u),io 57 _]) [0,0,3,7,3,3,0]
 refine z4 ?_
 refine zz (fun _ j=>ac (QY (e:= .int) (j.v rfl) (j.en 7 rfl) (j.v rfl) Zf ZY rfl (by omega) (by first | omega | (simp only[ay]; omega))) rfl)<|zz (fun _ j=>ac (ZH (e:= .int) (j.v rfl) (j.n 7 rfl) F rfl ZY rfl rfl) rfl) ?_
 exact y1
 cases r:(decide (ar.1=u))
 have z:=aa r
 refine w6 ?_
 refine Qb ?_
 refine l0_ ?_
 exact wp [] ⟨rfl,rfl,rfl,(Qk (by first | exact Qre m ‹_› | exact Qtr m ‹_›)),trivial⟩
 have z:=ab r
 refine w5 ?_
 refine alI 60 fun _=> ?_
 refine lc (Yz (args0:=[(false,[dI ar.2.2.2])]) (caps:=[0,1,2]) 9 [(0,0),(1,1),(2,3),(3,7)] (WX ar.2.2.2 c l ((c.2.2.take i).foldl (qU c l.1 u) h) (by omega)) Qez rfl (Qa rfl) rfl rfl ⟨_,_,rfl,(Qo rfl),rfl⟩ ⟨rfl,rfl,rfl,rfl,trivial⟩ rfl ⟨trivial,trivial,trivial,(Fresh.of rfl),(Fresh.of rfl),trivial⟩ (nlr rfl))<|Qb ?_
 refine w4 ?_
 refine Qb ?_
 refine l0_ ?_
 exact wp [(7,12)] ⟨rfl,rfl,rfl,(Qk (by first | exact Qre m ‹_› | exact Qtr m ‹_›)),trivial⟩
 have B:=ab A
 refine w5 ?_
 obtain ⟨d,f⟩:=gx c.2.2 k
 have m:=f
 refine w2 ?_
 refine lc (xal 13 YE ZG) ?_
 refine w2 ?_
 cases t:(Ty.beq Zk (d.2.1,d.2.2.1) l)
 apply dW (io 23 _ :: io 24 (ag [dI d.2.1,dB d.2.2.1]) :: io 25 _ :: io 26 (lB false) :: i6 27 _ _ _ _ _ _ []) [0,0,3,0,0,0,32,32,0,0]
 refine z_ ?_
 refine zz (fun _ j=>ac (dK (XH d) J4) rfl) ?_
 refine z_ ?_
 refine zz (fun _ j=>ac (QS (t) (K4 QdJ Qdd (j.w rfl) (j.w rfl) (p:=(d.2.1,d.2.2.1)) (q:=l) rfl rfl rfl)) rfl) ?_
 exact y6
 refine w6 ?_
 refine Qb ?_
 refine l0_ ?_
 exact wp [] ⟨rfl,rfl,rfl,(Qk (by first | exact Qk4 f (V0 ‹_›).1 (V0 ‹_›).2 ‹_› | exact QfL f (fun g=>Qa1 ‹_› ⟨g.1,g.2.1⟩) | exact QfL f (fun g=>VU ‹_› g.2.2))),trivial⟩
 apply dW (io 23 _ :: io 24 (ag [dI d.2.1,dB d.2.2.1]) :: io 25 _ :: io 26 (lB true) :: i4 27 _ _ _ _ [io 31 (lB (b.any (fun y=>decide (d.1=y)))),io 32 _]) [0,0,3,0,0,0,32,32,0,0]
 refine z_ ?_
 refine zz (fun _ j=>ac (dK (XH d) J4) rfl) ?_
 refine z_ ?_
 refine zz (fun _ j=>ac (QS (t) (K4 QdJ Qdd (j.w rfl) (j.w rfl) (p:=(d.2.1,d.2.2.1)) (q:=l) rfl rfl rfl)) rfl) ?_
 refine z4 ?_
 refine zz (fun _ j=>day rfl (j.k rfl) (dK (QG b d.1) YA) rfl) ?_
 exact y1
 cases I:(b.any (fun y=>decide (d.1=y)))
 refine w6 ?_
 refine Qb ?_
 refine l0_ ?_
 exact wp [] ⟨rfl,rfl,rfl,(Qk (by first | exact Qk4 f (V0 ‹_›).1 (V0 ‹_›).2 ‹_› | exact QfL f (fun g=>Qa1 ‹_› ⟨g.1,g.2.1⟩) | exact QfL f (fun g=>VU ‹_› g.2.2))),trivial⟩
 refine w5 ?_
 refine alI 35 fun _=> ?_
 refine lc (Yz (args0:=[(false,[dI d.2.2.2])]) (caps:=[0,1,2]) 14 [(0,0),(1,1),(2,3),(3,4)] (WX d.2.2.2 c l ((c.2.2.take k).foldl (qJ c l b) []) (by omega)) Qez rfl (Qa rfl) rfl rfl ⟨_,_,rfl,(Qo rfl),rfl⟩ ⟨rfl,rfl,rfl,rfl,trivial⟩ rfl ⟨trivial,trivial,trivial,(Fresh.of rfl),(Fresh.of rfl),trivial⟩ (nlr rfl))<|Qb ?_
 refine w4 ?_
 refine Qb ?_
 refine l0_ ?_
 exact wp [(4,17)] ⟨rfl,rfl,rfl,(Qk (by first | exact Qk4 f (V0 ‹_›).1 (V0 ‹_›).2 ‹_› | exact QfL f (fun g=>Qa1 ‹_› ⟨g.1,g.2.1⟩) | exact QfL f (fun g=>VU ‹_› g.2.2))),trivial⟩
theorem Uq (c:ZX)(sig:Int)(b:List Int)(L:SgOk c):FC Tryz.prog 86 [(true,[.dat Ql c.1, .dat Qj c.2.1, .dat Qv c.2.2]),(false,[dI sig]),(false,[.dat Qi b])] [] 0 (YV 3 .int (qV c sig b)):=by
 have q:∀a∈c.2.2,InR c.2.1.length a:=fun a ha=>ZL (L.arcs a ha)
 have a6:=L.some_
 have a4:=L.few
 have h8:=L.sigs.2.2
 refine Qp Tryz.func86 rfl rfl Tryz.ntmps86 fun O_ hO a7 Z X_ a1 a0=> ?_
 refine acI 1 fun _=> ?_
 refine w_ ?_
 refine xbx 0 ?_
 refine w5 ?_
 refine alL 16 fun _=> ?_
 refine w_ ?_
 refine lc (Xr 1 (e:= .bool) (n:=c.2.1.length) (Qa rfl) (Qa rfl) H0 QpO rfl (by omega) (by omega) rfl (Fresh.of rfl) (nlr rfl)) ?_
 refine w6 ?_
 refine alL 20 fun _=> ?_
 refine w4 ?_
 refine lp0 c.2.2.length (fun k=>⟨[(1,lI sig),(2,lf (.dat Qi b)),(3,lP 0 0),(6,lf (.val (.slice none 0 0))),(7,lR 2),(20,lf (.dat Qv c.2.2)),(21,lI (c.2.2.length:Int)),(22,lI (k:Int))],[bx 0 28 [.dat Ql c.1, .dat Qj c.2.1, .dat Qv c.2.2],(2,some (.arr 4 .bool (chi c.2.1.length ((c.2.2.take k).foldl (qZ c sig b) []))))]⟩) ?_ fun k _=> ?_
 exact wp [(2,1)] ⟨rfl,(Qk (Qrp)),trivial⟩
 have a2:=H1 (n:=c.2.1.length) (S:=(c.2.2.take k).foldl (qZ c sig b) [])
 refine w4 ?_
 cases C:(decide ((k:Int) < (c.2.2.length:Int)))
 have D:=aa C
 refine w4 ?_
 refine Zy ?_
 have a3:=H1 (n:=c.2.1.length) (S:=c.2.2.foldl (qZ c sig b) [])
 rw[Za (by omega)]
 refine w6 ?_
 refine lp0 c.2.1.length (fun j=>⟨[(1,lI sig),(3,lP 0 0),(6,lf (.val (.slice none 0 0))),(7,lR 3),(50,lI ((chi c.2.1.length ((c.2.2).foldl (qZ c sig b) [])).length:Int)),(51,lI (j:Int))],[bx 0 28 [.dat Ql c.1, .dat Qj c.2.1, .dat Qv c.2.2],(3,some (.arr 4 .bool (chi c.2.1.length (Q3 (qR c sig) j (c.2.2.foldl (qZ c sig b) [])))))]⟩) ?_ fun j _=> ?_
 exact wp [(3,2)] ⟨rfl,(Qk (rfl)),trivial⟩
 have V:=H1 (n:=c.2.1.length) (S:=Q3 (qR c sig) j (c.2.2.foldl (qZ c sig b) []))
 refine w4 ?_
 cases E:(decide ((j:Int) < ((chi c.2.1.length ((c.2.2).foldl (qZ c sig b) [])).length:Int)))
 have F:=aa E
 refine w3 ?_
 refine Zy ?_
 rw[Qmg (n:=c.2.1.length) (by omega) (by omega)]
 refine w10 ?_
 refine AC.wk (Wk.nilS 4 12 3 .int rfl (Fresh.of rfl) (nlr rfl)) ?_
 refine lp0 c.2.1.length (fun k=>⟨[(6,lf (.val (.slice none 0 0))),(12,lR 5),(79,lR 3),(80,lI ((chi c.2.1.length (Q3 (qR c sig) c.2.1.length (c.2.2.foldl (qZ c sig b) []))).length:Int)),(81,lI (k:Int))],[(3,some (.arr 4 .bool (chi c.2.1.length (Q3 (qR c sig) c.2.1.length (c.2.2.foldl (qZ c sig b) []))))),(5,some (.arr 3 .int (rg (chF (Q3 (qR c sig) c.2.1.length (c.2.2.foldl (qZ c sig b) []))) k)))]⟩) ?_ fun k _=> ?_
 exact wp [(5,4)] ⟨rfl,(Qk (rfl)),trivial⟩
 have a5:=V4 (f:=chF (Q3 (qR c sig) c.2.1.length (c.2.2.foldl (qZ c sig b) []))) (m:=k)
 have X:=H1 (n:=c.2.1.length) (S:=Q3 (qR c sig) c.2.1.length (c.2.2.foldl (qZ c sig b) []))
 refine w4 ?_
 cases G:(decide ((k:Int) < ((chi c.2.1.length (Q3 (qR c sig) c.2.1.length (c.2.2.foldl (qZ c sig b) []))).length:Int)))
 have H:=aa G
 refine w7 ?_
 refine Qd<|fo_ hO ?_
 exact Qvg q (by omega) (by omega)
 have H:=ab G
 refine w7 ?_
 obtain ⟨B,I⟩:=gx (chi c.2.1.length (Q3 (qR c sig) c.2.1.length (c.2.2.foldl (qZ c sig b) []))) k
 have r:=QgU I
 refine w7 ?_
 cases Q:(B)
 refine w6 ?_
 refine Qb ?_
 refine l0_ ?_
 exact wp [] ⟨rfl,(Qk (by first | exact Qmd ((by assumption:B=true).symm.trans (r (k:Int) rfl (by omega))) | exact QoO ((by assumption:B=false).symm.trans (r (k:Int) rfl (by omega))))),trivial⟩
 refine w4 ?_
 refine lc (dBs 6 (e:= .int) Yt) ?_
 refine lc (dA 7 XC) ?_
 refine w_ ?_
 refine Qb ?_
 refine w4 ?_
 refine Qb ?_
 refine l0_ ?_
 exact wp [(5,7)] ⟨rfl,(Qk (by first | exact Qmd ((by assumption:B=true).symm.trans (r (k:Int) rfl (by omega))) | exact QoO ((by assumption:B=false).symm.trans (r (k:Int) rfl (by omega))))),trivial⟩
 have F:=ab E
 refine w7 ?_
 refine alL 54 fun _=> ?_
 refine w4 ?_
 refine lp0 c.2.2.length (fun i=>⟨[(1,lI sig),(3,lP 0 0),(6,lf (.val (.slice none 0 0))),(7,lR 8),(50,lI ((chi c.2.1.length ((c.2.2).foldl (qZ c sig b) [])).length:Int)),(51,lI (j:Int)),(52,lB true),(53,lP 0 2),(54,lf (.dat Qv c.2.2)),(55,lI (c.2.2.length:Int)),(56,lI (i:Int))],[bx 0 28 [.dat Ql c.1, .dat Qj c.2.1, .dat Qv c.2.2],(8,some (.arr 4 .bool (chi c.2.1.length ((c.2.2.take i).foldl (qT c sig) (Q3 (qR c sig) j (c.2.2.foldl (qZ c sig b) []))))))]⟩) ?_ fun i _=> ?_
 exact wp [(8,3)] ⟨rfl,(Qk (rfl)),trivial⟩
 have W:=H1 (n:=c.2.1.length) (S:=(c.2.2.take i).foldl (qT c sig) (Q3 (qR c sig) j (c.2.2.foldl (qZ c sig b) [])))
 refine w4 ?_
 cases s:(decide ((i:Int) < (c.2.2.length:Int)))
 have y:=aa s
 refine w6 ?_
 refine Qb ?_
 refine l0_ ?_
 exact wp [(3,8)] ⟨rfl,(Qk ((by rw[Za (by omega)]; rfl))),trivial⟩
 have y:=ab s
 refine w5 ?_
 obtain ⟨ar,v⟩:=gx c.2.2 i
 have h:=v
 have p:=q _ (ae v)
 obtain ⟨⟨M,N⟩,O,P⟩:=p
 refine w2 ?_
 refine lc (xal 9 YE ZG) ?_
 refine w6 ?_
 refine alI 62 fun _=> ?_
 refine w_ ?_
 obtain ⟨x,J⟩:=gx (chi c.2.1.length ((c.2.2.take i).foldl (qT c sig) (Q3 (qR c sig) j (c.2.2.foldl (qZ c sig b) [])))) ((ar.1).toNat)
 have l:=QgU J
 refine w2 ?_
 cases R:(x)
 refine w14 ?_
 refine Qb ?_
 refine l0_ ?_
 exact wp [] ⟨rfl,(Qk (by first | exact Qja q h ((by assumption:x=true).symm.trans (l _ rfl (by omega))) ‹_› | exact QfU h (fun g=>fls ((by assumption:x=false).symm.trans (l _ rfl (by omega))) g.1) | exact QfU h (fun g=>Qdw ‹_› g.2))),trivial⟩
 refine w4 ?_
 refine lgy rfl rfl (dK (ZB c ar.2.2.2 sig) Xk) ?_
 refine w3 ?_
 cases T:(Zc c ar.2.2.2 sig)
 refine w5 ?_
 refine alI 75 fun _=> ?_
 refine w_ ?_
 obtain ⟨a8,w⟩:=gx (chi c.2.1.length ((c.2.2.take i).foldl (qT c sig) (Q3 (qR c sig) j (c.2.2.foldl (qZ c sig b) [])))) ((ar.2.2.2).toNat)
 have Y:=QgU w
 refine lc (Qt (e:= .bool) (z':=true) (Qa rfl) rfl w rfl (Evl.ev Zn) rfl Up rfl rfl)<|Qb ?_
 refine w4 ?_
 refine Qb ?_
 refine l0_ ?_
 exact wp [] ⟨rfl,(Qk (by first | exact Qja q h ((by assumption:x=true).symm.trans (l _ rfl (by omega))) ‹_› | exact QfU h (fun g=>fls ((by assumption:x=false).symm.trans (l _ rfl (by omega))) g.1) | exact QfU h (fun g=>Qdw ‹_› g.2))),trivial⟩
 refine w6 ?_
 refine Qb ?_
 refine l0_ ?_
 exact wp [] ⟨rfl,(Qk (by first | exact Qja q h ((by assumption:x=true).symm.trans (l _ rfl (by omega))) ‹_› | exact QfU h (fun g=>fls ((by assumption:x=false).symm.trans (l _ rfl (by omega))) g.1) | exact QfU h (fun g=>Qdw ‹_› g.2))),trivial⟩
 have D:=ab C
 refine w5 ?_
 obtain ⟨o,d⟩:=gx c.2.2 k
 have h:=d
 have p:=q _ (ae d)
 obtain ⟨⟨M,N⟩,O,P⟩:=p
 refine w2 ?_
 refine lc (xal 10 YE ZG) ?_
 refine w6 ?_
 refine alI 28 fun _=> ?_
 refine lc (dK (Ws b o.1) UY) ?_
 refine w_ ?_
 cases t:(decide (o.1∈b))
 have z:=aa t
 refine w16 ?_
 refine w4 ?_
 refine Qb ?_
 refine l0_ ?_
 exact wp [] ⟨rfl,(Qk (by first | exact Qhd q d ‹_› ‹_› ‹_› | exact U9 d (fun g=>absurd g.1 ‹_›) | exact U9 d (fun g=>absurd g.2.1 ‹_›) | exact U9 d (fun g=>Qdw ‹_› g.2.2))),trivial⟩
 have z:=ab t
 refine w6 ?_
 cases u:(decide (o.2.1=sig))
 have A:=aa u
 refine w14 ?_
 refine Qb ?_
 refine l0_ ?_
 exact wp [] ⟨rfl,(Qk (by first | exact Qhd q d ‹_› ‹_› ‹_› | exact U9 d (fun g=>absurd g.1 ‹_›) | exact U9 d (fun g=>absurd g.2.1 ‹_›) | exact U9 d (fun g=>Qdw ‹_› g.2.2))),trivial⟩
 have A:=ab u
 refine w4 ?_
 refine lgy rfl rfl (dK (ZB c o.2.2.2 sig) Xk) ?_
 refine w3 ?_
 cases U:(Zc c o.2.2.2 sig)
 refine w5 ?_
 refine alI 46 fun _=> ?_
 refine w_ ?_
 obtain ⟨a9,K⟩:=gx (chi c.2.1.length ((c.2.2.take k).foldl (qZ c sig b) [])) ((o.2.2.2).toNat)
 refine lc (Qt (e:= .bool) (z':=true) (Qa rfl) rfl K rfl (Evl.ev Zn) rfl Up rfl rfl)<|Qb ?_
 refine w4 ?_
 refine Qb ?_
 refine l0_ ?_
 exact wp [] ⟨rfl,(Qk (by first | exact Qhd q d ‹_› ‹_› ‹_› | exact U9 d (fun g=>absurd g.1 ‹_›) | exact U9 d (fun g=>absurd g.2.1 ‹_›) | exact U9 d (fun g=>Qdw ‹_› g.2.2))),trivial⟩
 refine w6 ?_
 refine Qb ?_
 refine l0_ ?_
 exact wp [] ⟨rfl,(Qk (by first | exact Qhd q d ‹_› ‹_› ‹_› | exact U9 d (fun g=>absurd g.1 ‹_›) | exact U9 d (fun g=>absurd g.2.1 ‹_›) | exact U9 d (fun g=>Qdw ‹_› g.2.2))),trivial⟩
end Go.Proofs.YtndabgcpnmeeoaaGreat
namespace Go.Proofs.YtndabgcpnmeeoaaGreat
open Go.RowKit
set_option maxRecDepth 100000
set_option maxHeartbeats 4000000
section
variable {P:Prop}[Decidable P]{r:List (List Int)}{x:List Int}{i:Int}{f:List Int→List Int}{as_:List DAr}{S:List Int}
theorem QxT (h:P)(hi:0≤i∧i≤((if P then r else []).length:Int) - 1)(a:(if P then r else [])[i.toNat]? =some x):f x=if P∧(0≤i∧i≤(r.length:Int) - 1) then f ((r[i.toNat]?).getD []) else []:=by
 rw[if_pos h] at hi a; rw[if_pos ⟨h,hi⟩,a]; rfl
theorem QxP (h:P)(hi:0≤i∧i≤(r.length:Int) - 1)(a:r[i.toNat]? =some x):f x=if P∧(0≤i∧i≤(r.length:Int) - 1) then f ((r[i.toNat]?).getD []) else []:=by
 rw[if_pos ⟨h,hi⟩,a]; rfl
theorem Qtq (h:¬P):[]=if P∧(0≤i∧i≤(r.length:Int) - 1) then f ((r[i.toNat]?).getD []) else []:=(if_neg fun g=>h g.1).symm
theorem Qvs (h:P)(hi:¬(0≤i∧i≤((if P then r else []).length:Int) - 1)):[]=if P∧(0≤i∧i≤(r.length:Int) - 1) then f ((r[i.toNat]?).getD []) else []:=by
 rw[if_pos h] at hi; exact (if_neg fun g=>hi g.2).symm
theorem QwR (hi:¬(0≤i∧i≤(r.length:Int) - 1)):[]=if P∧(0≤i∧i≤(r.length:Int) - 1) then f ((r[i.toNat]?).getD []) else []:=(if_neg fun g=>hi g.2).symm
theorem Qyr (h:P)(hi:0≤i∧i≤((if P then r else []).length:Int) - 1):true=decide (P∧(0≤i∧i≤(r.length:Int) - 1)):=by rw[if_pos h] at hi; exact (aE ⟨h,hi⟩).symm
theorem QvA (h:P)(hi:¬(0≤i∧i≤((if P then r else []).length:Int) - 1)):false=decide (P∧(0≤i∧i≤(r.length:Int) - 1)):=by rw[if_pos h] at hi; exact (aB fun g=>hi g.2).symm
theorem Quu (h:P)(a:(if P then regV as_ S else [])[i.toNat]? =some x):∀q∈x,q∈S:=by
 rw[if_pos h] at a
 intro q b
 obtain ⟨y,_,rfl⟩:=ba.1 (ae a)
 exact (bl.1 b).1
end
theorem Uo (c:ZX)(sig:Int)(up:Bool)(i:Int)[∀c,Decidable (SgOk c)]:FC Tryz.prog 100 [(true,[.dat Ql c.1, .dat Qj c.2.1, .dat Qv c.2.2]),(false,[dI sig]),(false,[dB up]),(false,[dI i])] [] 0 (QX (PV.tup [(false,[.dat Qi (if ((0≤sig∧sig≤(c.1.length:Int) - 1)∧QR c sig=false∧SgOk c∧QL c=QB)∧(0≤i∧i≤((regV c.2.2 (xS c.2.2 (sig,up))).length:Int) - 1) then qV c sig (((regV c.2.2 (xS c.2.2 (sig,up)))[i.toNat]?).getD []) else [])]),(false,[dB (decide (((0≤sig∧sig≤(c.1.length:Int) - 1)∧QR c sig=false∧SgOk c∧QL c=QB)∧(0≤i∧i≤((regV c.2.2 (xS c.2.2 (sig,up))).length:Int) - 1)))])])):=by
 refine Qp Tryz.func100 rfl rfl Tryz.ntmps100 fun B o A q C z y=> ?_
 refine acI 1 fun _=> ?_
 refine acI 3 fun _=> ?_
 refine w_ ?_
 refine xbx 0 ?_
 refine w7 ?_
 refine lc (dK (Xw c sig up) Qd0) ?_
 refine w11 ?_
 cases d:(decide ((0≤sig∧sig≤(c.1.length:Int) - 1)∧QR c sig=false∧SgOk c∧QL c=QB))
 have h:=aa d
 refine w13 ?_
 refine AC.wk (Qaq (i:=8) 3 .int rfl)<|Qd ?_
 have s:([]:(Qi:Ty).Den)=(if ((0≤sig∧sig≤(c.1.length:Int) - 1)∧QR c sig=false∧SgOk c∧QL c=QB)∧(0≤i∧i≤((regV c.2.2 (xS c.2.2 (sig,up))).length:Int) - 1) then qV c sig (((regV c.2.2 (xS c.2.2 (sig,up)))[i.toNat]?).getD []) else []):=by
  exact Qtq (f:=qV c sig) ‹_›
 have t:(false:Bool)=(decide (((0≤sig∧sig≤(c.1.length:Int) - 1)∧QR c sig=false∧SgOk c∧QL c=QB)∧(0≤i∧i≤((regV c.2.2 (xS c.2.2 (sig,up))).length:Int) - 1))):=by
  exact (aB fun g=>absurd g.1 ‹_›).symm
 exact fr_ o (e:=((congrArg (fun z_=>PV.tup [(false,[.dat Qi z_]),(false,[dB false])]) s)).trans (congrArg (fun z_=>PV.tup [(false,[.dat Qi (if ((0≤sig∧sig≤(c.1.length:Int) - 1)∧QR c sig=false∧SgOk c∧QL c=QB)∧(0≤i∧i≤((regV c.2.2 (xS c.2.2 (sig,up))).length:Int) - 1) then qV c sig (((regV c.2.2 (xS c.2.2 (sig,up)))[i.toNat]?).getD []) else [])]),(false,[dB z_])]) t))
 have h:=ab d
 refine w2 ?_
 refine alL 23 fun _=> ?_
 refine w2 ?_
 refine lgy rfl rfl (dK (Q9 i 0 (((if ((0≤sig∧sig≤(c.1.length:Int) - 1)∧QR c sig=false∧SgOk c∧QL c=QB) then regV c.2.2 (xS c.2.2 (sig,up)) else []).length:Int) - 1)) ZP) ?_
 refine w3 ?_
 cases j:(decide (0≤i∧i≤(((if ((0≤sig∧sig≤(c.1.length:Int) - 1)∧QR c sig=false∧SgOk c∧QL c=QB) then regV c.2.2 (xS c.2.2 (sig,up)) else []).length:Int) - 1)))
 have k:=aa j
 refine w5 ?_
 refine AC.wk (Qaq (i:=8) 3 .int rfl)<|Qd ?_
 have u:([]:(Qi:Ty).Den)=(if ((0≤sig∧sig≤(c.1.length:Int) - 1)∧QR c sig=false∧SgOk c∧QL c=QB)∧(0≤i∧i≤((regV c.2.2 (xS c.2.2 (sig,up))).length:Int) - 1) then qV c sig (((regV c.2.2 (xS c.2.2 (sig,up)))[i.toNat]?).getD []) else []):=by
  exact Qvs (f:=qV c sig) ‹_› ‹_›
 have v:(false:Bool)=(decide (((0≤sig∧sig≤(c.1.length:Int) - 1)∧QR c sig=false∧SgOk c∧QL c=QB)∧(0≤i∧i≤((regV c.2.2 (xS c.2.2 (sig,up))).length:Int) - 1))):=by
  exact QvA ‹_› ‹_›
 exact fr_ o (e:=((congrArg (fun z_=>PV.tup [(false,[.dat Qi z_]),(false,[dB false])]) u)).trans (congrArg (fun z_=>PV.tup [(false,[.dat Qi (if ((0≤sig∧sig≤(c.1.length:Int) - 1)∧QR c sig=false∧SgOk c∧QL c=QB)∧(0≤i∧i≤((regV c.2.2 (xS c.2.2 (sig,up))).length:Int) - 1) then qV c sig (((regV c.2.2 (xS c.2.2 (sig,up)))[i.toNat]?).getD []) else [])]),(false,[dB z_])]) v))
 have k:=ab j
 refine w2 ?_
 obtain ⟨b,l⟩:=gx (if ((0≤sig∧sig≤(c.1.length:Int) - 1)∧QR c sig=false∧SgOk c∧QL c=QB) then regV c.2.2 (xS c.2.2 (sig,up)) else []) ((i).toNat)
 have a:=l
 apply dW (i3 29 _ _ _ (io 32 (ag [dI sig,dB up]) :: i4 33 _ _ _ _ (io 37 (lf (.dat Qi (qV c (sig,up).1 b))) :: i2 8 _ _ []))) [0,1,3,1,15,31,15,15,0,0,0]
 refine z3 ?_
 refine zz (fun _ p=>ac (Qq XJ ⟨_,_,rfl,(p.w rfl),⟨_,_,rfl,(p.w rfl),rfl⟩⟩ (av.1 rfl) rfl rfl) rfl) ?_
 refine z4 ?_
 refine zz (fun _ p=>ac (dK (VP c (sig,up) b (by assumption:((0≤sig∧sig≤(c.1.length:Int) - 1)∧QR c sig=false∧SgOk c∧QL c=QB)).2.2.1 (by assumption:((0≤sig∧sig≤(c.1.length:Int) - 1)∧QR c sig=false∧SgOk c∧QL c=QB)).1 (Quu (by assumption:((0≤sig∧sig≤(c.1.length:Int) - 1)∧QR c sig=false∧SgOk c∧QL c=QB)) a)).frozen QdO) rfl) ?_
 exact y2
 refine w_ ?_
 have m:(qV c (sig,up).1 b:(Qi:Ty).Den)=(if ((0≤sig∧sig≤(c.1.length:Int) - 1)∧QR c sig=false∧SgOk c∧QL c=QB)∧(0≤i∧i≤((regV c.2.2 (xS c.2.2 (sig,up))).length:Int) - 1) then qV c sig (((regV c.2.2 (xS c.2.2 (sig,up)))[i.toNat]?).getD []) else []):=by
  exact QxT (f:=qV c sig) ‹_› ‹_› a
 have n:(true:Bool)=(decide (((0≤sig∧sig≤(c.1.length:Int) - 1)∧QR c sig=false∧SgOk c∧QL c=QB)∧(0≤i∧i≤((regV c.2.2 (xS c.2.2 (sig,up))).length:Int) - 1))):=by
  exact Qyr ‹_› ‹_›
 exact fr_ o (e:=((congrArg (fun z_=>PV.tup [(false,[.dat Qi z_]),(false,[dB true])]) m)).trans (congrArg (fun z_=>PV.tup [(false,[.dat Qi (if ((0≤sig∧sig≤(c.1.length:Int) - 1)∧QR c sig=false∧SgOk c∧QL c=QB)∧(0≤i∧i≤((regV c.2.2 (xS c.2.2 (sig,up))).length:Int) - 1) then qV c sig (((regV c.2.2 (xS c.2.2 (sig,up)))[i.toNat]?).getD []) else [])]),(false,[dB z_])]) n))
theorem XT (c:ZX)(sig:Int)(up:Bool)(i:Int)[∀c,Decidable (SgOk c)]:FC Tryz.prog 103 [(true,[.dat Ql c.1, .dat Qj c.2.1, .dat Qv c.2.2]),(false,[dI sig]),(false,[dB up]),(false,[dI i])] [] 0 (QX (PV.tup [(false,[.dat Qi (if ((0≤sig∧sig≤(c.1.length:Int) - 1)∧QR c sig=false∧SgOk c∧QL c=QB)∧(0≤i∧i≤((regV c.2.2 (xS c.2.2 (sig,up))).length:Int) - 1) then qV c sig (((regV c.2.2 (xS c.2.2 (sig,up)))[i.toNat]?).getD []) else [])]),(false,[dB (decide (((0≤sig∧sig≤(c.1.length:Int) - 1)∧QR c sig=false∧SgOk c∧QL c=QB)∧(0≤i∧i≤((regV c.2.2 (xS c.2.2 (sig,up))).length:Int) - 1)))])])):=by
 refine Qp Tryz.func103 rfl rfl Tryz.ntmps103 fun A o z p B w v=> ?_
 refine acI 1 fun _=> ?_
 refine acI 3 fun _=> ?_
 refine w_ ?_
 refine xbx 0 ?_
 refine w7 ?_
 refine lc (dK (QaM c sig) Qi6) ?_
 refine w2 ?_
 cases b:(decide ((0≤sig∧sig≤(c.1.length:Int) - 1)∧QR c sig=false∧SgOk c∧QL c=QB))
 have d:=aa b
 refine w16 ?_
 refine AC.wk (Qaq (i:=8) 3 .int rfl)<|Qd ?_
 have q:([]:(Qi:Ty).Den)=(if ((0≤sig∧sig≤(c.1.length:Int) - 1)∧QR c sig=false∧SgOk c∧QL c=QB)∧(0≤i∧i≤((regV c.2.2 (xS c.2.2 (sig,up))).length:Int) - 1) then qV c sig (((regV c.2.2 (xS c.2.2 (sig,up)))[i.toNat]?).getD []) else []):=by
  exact Qtq (f:=qV c sig) ‹_›
 have s:(false:Bool)=(decide (((0≤sig∧sig≤(c.1.length:Int) - 1)∧QR c sig=false∧SgOk c∧QL c=QB)∧(0≤i∧i≤((regV c.2.2 (xS c.2.2 (sig,up))).length:Int) - 1))):=by
  exact (aB fun g=>absurd g.1 ‹_›).symm
 exact fr_ o (e:=((congrArg (fun z_=>PV.tup [(false,[.dat Qi z_]),(false,[dB false])]) q)).trans (congrArg (fun z_=>PV.tup [(false,[.dat Qi (if ((0≤sig∧sig≤(c.1.length:Int) - 1)∧QR c sig=false∧SgOk c∧QL c=QB)∧(0≤i∧i≤((regV c.2.2 (xS c.2.2 (sig,up))).length:Int) - 1) then qV c sig (((regV c.2.2 (xS c.2.2 (sig,up)))[i.toNat]?).getD []) else [])]),(false,[dB z_])]) s))
 have d:=ab b
 refine w4 ?_
 refine lgy rfl rfl (dK (Z2 c sig up (by assumption:((0≤sig∧sig≤(c.1.length:Int) - 1)∧QR c sig=false∧SgOk c∧QL c=QB)).2.2.1 (by assumption:((0≤sig∧sig≤(c.1.length:Int) - 1)∧QR c sig=false∧SgOk c∧QL c=QB)).1).frozen Vb) ?_
 refine alL 19 fun _=> ?_
 refine w2 ?_
 refine lgy rfl rfl (dK (Yw i 0 (((regV c.2.2 (xS c.2.2 (sig,up))).length:Int) - 1)) Xd) ?_
 refine w3 ?_
 cases h:(decide (0≤i∧i≤(((regV c.2.2 (xS c.2.2 (sig,up))).length:Int) - 1)))
 have j:=aa h
 refine w5 ?_
 refine AC.wk (Qaq (i:=8) 3 .int rfl)<|Qd ?_
 have t:([]:(Qi:Ty).Den)=(if ((0≤sig∧sig≤(c.1.length:Int) - 1)∧QR c sig=false∧SgOk c∧QL c=QB)∧(0≤i∧i≤((regV c.2.2 (xS c.2.2 (sig,up))).length:Int) - 1) then qV c sig (((regV c.2.2 (xS c.2.2 (sig,up)))[i.toNat]?).getD []) else []):=by
  exact QwR (f:=qV c sig) ‹_›
 have u:(false:Bool)=(decide (((0≤sig∧sig≤(c.1.length:Int) - 1)∧QR c sig=false∧SgOk c∧QL c=QB)∧(0≤i∧i≤((regV c.2.2 (xS c.2.2 (sig,up))).length:Int) - 1))):=by
  exact (aB fun g=>absurd g.2 ‹_›).symm
 exact fr_ o (e:=((congrArg (fun z_=>PV.tup [(false,[.dat Qi z_]),(false,[dB false])]) t)).trans (congrArg (fun z_=>PV.tup [(false,[.dat Qi (if ((0≤sig∧sig≤(c.1.length:Int) - 1)∧QR c sig=false∧SgOk c∧QL c=QB)∧(0≤i∧i≤((regV c.2.2 (xS c.2.2 (sig,up))).length:Int) - 1) then qV c sig (((regV c.2.2 (xS c.2.2 (sig,up)))[i.toNat]?).getD []) else [])]),(false,[dB z_])]) u))
 have j:=ab h
 refine w2 ?_
 obtain ⟨a,l⟩:=gx (regV c.2.2 (xS c.2.2 (sig,up))) ((i).toNat)
 have k:=l
 apply dW (i5 25 _ _ _ _ _ (io 30 (lf (.dat Z7 (regV c.2.2 (xS c.2.2 (sig,up))))) :: i3 31 _ _ _ (io 34 (lf (.dat Qi (qV c sig a))) :: i2 8 _ _ []))) [0,1,3,7,15,3,63,3,3,0,0,0]
 refine z5 ?_
 refine zz (fun _ y=>ac (dK (Z2 c sig up (by assumption:((0≤sig∧sig≤(c.1.length:Int) - 1)∧QR c sig=false∧SgOk c∧QL c=QB)).2.2.1 (by assumption:((0≤sig∧sig≤(c.1.length:Int) - 1)∧QR c sig=false∧SgOk c∧QL c=QB)).1).frozen Vb) rfl) ?_
 refine z3 ?_
 refine zz (fun _ y=>ac (dK (Uq c sig a (by assumption:((0≤sig∧sig≤(c.1.length:Int) - 1)∧QR c sig=false∧SgOk c∧QL c=QB)).2.2.1).frozen Qfq) rfl) ?_
 exact y2
 refine w_ ?_
 have m:(qV c sig a:(Qi:Ty).Den)=(if ((0≤sig∧sig≤(c.1.length:Int) - 1)∧QR c sig=false∧SgOk c∧QL c=QB)∧(0≤i∧i≤((regV c.2.2 (xS c.2.2 (sig,up))).length:Int) - 1) then qV c sig (((regV c.2.2 (xS c.2.2 (sig,up)))[i.toNat]?).getD []) else []):=by
  exact QxP (f:=qV c sig) ‹_› ‹_› k
 have n:(true:Bool)=(decide (((0≤sig∧sig≤(c.1.length:Int) - 1)∧QR c sig=false∧SgOk c∧QL c=QB)∧(0≤i∧i≤((regV c.2.2 (xS c.2.2 (sig,up))).length:Int) - 1))):=by
  exact (aE ⟨by assumption,by assumption⟩).symm
 exact fr_ o (e:=((congrArg (fun z_=>PV.tup [(false,[.dat Qi z_]),(false,[dB true])]) m)).trans (congrArg (fun z_=>PV.tup [(false,[.dat Qi (if ((0≤sig∧sig≤(c.1.length:Int) - 1)∧QR c sig=false∧SgOk c∧QL c=QB)∧(0≤i∧i≤((regV c.2.2 (xS c.2.2 (sig,up))).length:Int) - 1) then qV c sig (((regV c.2.2 (xS c.2.2 (sig,up)))[i.toNat]?).getD []) else [])]),(false,[dB z_])]) n))
end Go.Proofs.YtndabgcpnmeeoaaGreat
namespace Go.Proofs.YtndabgcpnmeeoaaGreat
open Go.RowKit
set_option maxRecDepth 100000
set_option maxHeartbeats 4000000
section
variable [∀s,Decidable (StgOk s)]{s:ZK}
theorem Wq:(sgV s).1.1.length≤8∧(sgV s).1.2.1.length≤301:=by
 cases h:(sgV s).2 with
 | true=>have a:=(Qej h).sig8; have b:=(Qej h).some_; exact ⟨a,by omega⟩
 | false=>
  have a:(sgV s).1=Qbf:=by
   unfold sgV at h ⊢
   split at h
   ·rename_i g
    rw[if_pos g]
    split at h
    ·cases h
    ·rfl
   ·rename_i g; rw[if_neg g]
  rw[a]
  exact ⟨by decide,by decide⟩
end
theorem Kk (code:List UInt8)(at_:Int)(sd:Int)[∀s,Decidable (StgOk s)][∀s,Decidable (Y5 s)](l:0≤at_∧at_≤600000000):FC Tryz.prog 167 [(false,[.ptr 0 0])] [bx 0 134 [.dat QN code,dI at_, .val (.int .u64 sd)]] 1 (Ex (fun x:DSg×Int×Int=>x.1.1.length≤8∧x.1.2.1.length≤301∧(at_≤x.2.1∧x.2.1≤at_+130)) (fun x:DSg×Int×Int=>ag [.dat Ql x.1.1, .dat Qj x.1.2.1, .dat Qv x.1.2.2]) (fun x:DSg×Int×Int=>[bx 0 134 [.dat QN code,dI x.2.1, .val (.int .u64 x.2.2)]])):=by
 refine Qp Tryz.func167 rfl rfl Tryz.ntmps167 fun i b h c j e d=> ?_
 refine w_ ?_
 refine lc (xal 1 Xn Zt) ?_
 refine w4 ?_
 have f:=Zu code at_ sd 5
 refine lc (dP 2 [] (Qr code at_ sd 5 (by omega)) Zl) ?_
 refine w6 ?_
 refine cd_ (fun _ _=> ?_) fun _ _=> ?_
 refine w4 ?_
 refine cd_ (fun _ _=> ?_) fun _ _=> ?_
 refine w4 ?_
 refine Q8 3 [(0,0)] (UB code (pkA 5 at_) (pkS code at_ sd 5) (by omega)) QjU e1_ ⟨rfl,trivial⟩ rfl (fun _=>rfl) (fun _=>⟨trivial,trivial⟩) (nlr rfl) fun a g=> ?_
 refine w3 ?_
 subst b
 refine QP (x:=((a.1.1,(a.1.2.1,a.1.2.2)),(a.2.1,a.2.2))) [(0,0)] ?_ (Res.one rfl (Rs.cell rfl rfl ZM rfl)) rfl ⟨rfl,trivial⟩ rfl rfl
 (dsimp only; have k:=‹_≤8∧_∧_›; omega)
 refine w_ ?_
 refine lc (dK (QK tx4 KA tx2 Qed (by decide+kernel) (by decide+kernel)).frozenG Zm) ?_
 refine lc (dK (Zg (Qs tx4 KA tx2 Qed)).frozenG XI) ?_
 refine w3 ?_
 refine lc (xal 4 Xn Zt) ?_
 refine w8 ?_
 subst b
 refine QP (x:=((((sgV (Qs tx4 KA tx2 Qed)).1).1,(((sgV (Qs tx4 KA tx2 Qed)).1).2.1,((sgV (Qs tx4 KA tx2 Qed)).1).2.2)),((pkA 5 at_),(pkS code at_ sd 5)))) [(0,0)] ?_ (Res.one rfl (Rs.cell rfl rfl ZM rfl)) rfl ⟨rfl,trivial⟩ rfl rfl
 (dsimp only; exact ⟨Wq.1,Wq.2,by omega⟩)
 refine w_ ?_
 refine lc (dK (QK tx7 tx8 tx2 Qen (by decide+kernel) (by decide+kernel)).frozenG Zm) ?_
 refine lc (dK (Zg (Qs tx7 tx8 tx2 Qen)).frozenG XI) ?_
 refine w3 ?_
 refine lc (xal 5 Xn Zt) ?_
 refine w8 ?_
 subst b
 refine QP (x:=((((sgV (Qs tx7 tx8 tx2 Qen)).1).1,(((sgV (Qs tx7 tx8 tx2 Qen)).1).2.1,((sgV (Qs tx7 tx8 tx2 Qen)).1).2.2)),((pkA 5 at_),(pkS code at_ sd 5)))) [(0,0)] ?_ (Res.one rfl (Rs.cell rfl rfl ZM rfl)) rfl ⟨rfl,trivial⟩ rfl rfl
 (dsimp only; exact ⟨Wq.1,Wq.2,by omega⟩)
theorem XK (code:List UInt8)(at_:Int)(sd:Int)[∀s,Decidable (StgOk s)][∀s,Decidable (Y5 s)][∀c,Decidable (SgOk c)](r:0≤at_∧at_≤500000000):FC Tryz.prog 76 [(false,[.ptr 0 0])] [bx 0 134 [.dat QN code,dI at_, .val (.int .u64 sd)]] 1 (Ex (fun x:DSg×Int×Int=>x.1.1.length≤8∧x.1.2.1.length≤301∧(at_≤x.2.1∧x.2.1≤at_+150)) (fun x:DSg×Int×Int=>ag [.dat Ql x.1.1, .dat Qj x.1.2.1, .dat Qv x.1.2.2]) (fun x:DSg×Int×Int=>[bx 0 134 [.dat QN code,dI x.2.1, .val (.int .u64 x.2.2)]])):=by
 refine Qp Tryz.func76 rfl rfl Tryz.ntmps76 fun m d l e n g f=> ?_
 refine w_ ?_
 refine lc (xal 1 Xn Zt) ?_
 refine w4 ?_
 have i:=Zu code at_ sd 8
 refine lc (dP 2 [] (ZT code at_ sd 8 (by omega)) Wg) ?_
 refine w_ ?_
 refine cd_ (fun _ _=> ?_) fun _ _=> ?_
 refine w3 ?_
 refine Q8 3 [(0,0)] (Y7 code (pkA 8 at_) (pkS code at_ sd 8) (by omega)) Hz e1_ ⟨rfl,trivial⟩ rfl (fun _=>rfl) (fun _=>⟨trivial,(Fresh.of rfl),(Fresh.of rfl),(Fresh.of rfl),trivial⟩) (nlr rfl) fun a j=>lc (WC 7 (Zg a.1) XI ⟨_,_,rfl,(JZ (Qo rfl) ⟨_,_,rfl, .inl rfl,⟨_,_,rfl, .inr ⟨_,_,_,_,rfl,rfl,rfl⟩,⟨_,_,rfl, .inr ⟨_,_,_,_,rfl,rfl,rfl⟩,⟨_,_,rfl, .inr ⟨_,_,_,_,rfl,rfl,rfl⟩,⟨_,_,rfl, .inl rfl,rfl⟩⟩⟩⟩⟩),rfl⟩ rfl rfl rfl ⟨Fresh.of rfl,Fresh.of rfl,Fresh.of rfl,trivial⟩ (nlr rfl)) ?_
 refine w3 ?_
 refine lc (xal 10 Xn Zt) ?_
 refine w8 ?_
 cases h:((sgV a.1).2)
 refine w7 ?_
 refine lc (dG 11 (QK tx0 tx1 tx2 tx3 (by decide+kernel) (by decide+kernel)) Zm) ?_
 refine lc (WC 14 (Zg (Qs tx0 tx1 tx2 tx3)) XI ⟨_,_,rfl,(JZ (Qo rfl) ⟨_,_,rfl, .inl rfl,⟨_,_,rfl, .inr ⟨_,_,_,_,rfl,rfl,rfl⟩,⟨_,_,rfl, .inr ⟨_,_,_,_,rfl,rfl,rfl⟩,⟨_,_,rfl, .inr ⟨_,_,_,_,rfl,rfl,rfl⟩,⟨_,_,rfl, .inl rfl,rfl⟩⟩⟩⟩⟩),rfl⟩ rfl rfl rfl ⟨Fresh.of rfl,Fresh.of rfl,Fresh.of rfl,trivial⟩ (nlr rfl)) ?_
 refine w5 ?_
 refine Zy<|AC.wk (QJ (p:=10) (off:=0) (q:=14) rfl rfl rfl)<|AC.wk (QJ (p:=10) (off:=1) (q:=15) rfl rfl rfl)<|AC.wk (QJ (p:=10) (off:=2) (q:=16) rfl rfl rfl) ?_
 refine w5 ?_
 subst d
 refine QP (x:=((((sgV (Qs tx0 tx1 tx2 tx3)).1).1,(((sgV (Qs tx0 tx1 tx2 tx3)).1).2.1,((sgV (Qs tx0 tx1 tx2 tx3)).1).2.2)),(a.2.1,a.2.2))) [(0,0)] ?_ (Res.one rfl (Rs.cell rfl rfl ZM rfl)) rfl ⟨rfl,trivial⟩ rfl rfl
 (dsimp only; exact ⟨Wq.1,Wq.2,by omega⟩)
 refine w_ ?_
 refine lgy rfl rfl (Vn (XD ((sgV a.1).1) (Qej ‹_›)) Uc ⟨_,_,rfl,(JZ (Qo rfl) ⟨_,_,rfl, .inr ⟨_,_,_,_,rfl,rfl,rfl⟩,⟨_,_,rfl, .inr ⟨_,_,_,_,rfl,rfl,rfl⟩,⟨_,_,rfl, .inr ⟨_,_,_,_,rfl,rfl,rfl⟩,rfl⟩⟩⟩),rfl⟩ rfl rfl rfl) ?_
 refine w3 ?_
 refine cn_ (fun _ _=> ?_) fun _ _=> ?_
 refine w_ ?_
 refine Zy<|AC.wk (QJ (p:=10) (off:=0) (q:=7) rfl rfl rfl)<|AC.wk (QJ (p:=10) (off:=1) (q:=8) rfl rfl rfl)<|AC.wk (QJ (p:=10) (off:=2) (q:=9) rfl rfl rfl) ?_
 refine w5 ?_
 subst d
 refine QP (x:=((((sgV a.1).1).1,(((sgV a.1).1).2.1,((sgV a.1).1).2.2)),(a.2.1,a.2.2))) [(0,0)] ?_ (Res.one rfl (Rs.cell rfl rfl ZM rfl)) rfl ⟨rfl,trivial⟩ rfl rfl
 (dsimp only; exact ⟨Wq.1,Wq.2,by omega⟩)
 refine w_ ?_
 refine lc (dG 17 (QK tx0 tx1 tx2 tx3 (by decide+kernel) (by decide+kernel)) Zm) ?_
 refine lc (WC 20 (Zg (Qs tx0 tx1 tx2 tx3)) XI ⟨_,_,rfl,(JZ (Qo rfl) ⟨_,_,rfl, .inl rfl,⟨_,_,rfl, .inr ⟨_,_,_,_,rfl,rfl,rfl⟩,⟨_,_,rfl, .inr ⟨_,_,_,_,rfl,rfl,rfl⟩,⟨_,_,rfl, .inr ⟨_,_,_,_,rfl,rfl,rfl⟩,⟨_,_,rfl, .inl rfl,rfl⟩⟩⟩⟩⟩),rfl⟩ rfl rfl rfl ⟨Fresh.of rfl,Fresh.of rfl,Fresh.of rfl,trivial⟩ (nlr rfl)) ?_
 refine w5 ?_
 refine Zy<|AC.wk (QJ (p:=10) (off:=0) (q:=20) rfl rfl rfl)<|AC.wk (QJ (p:=10) (off:=1) (q:=21) rfl rfl rfl)<|AC.wk (QJ (p:=10) (off:=2) (q:=22) rfl rfl rfl) ?_
 refine w5 ?_
 subst d
 refine QP (x:=((((sgV (Qs tx0 tx1 tx2 tx3)).1).1,(((sgV (Qs tx0 tx1 tx2 tx3)).1).2.1,((sgV (Qs tx0 tx1 tx2 tx3)).1).2.2)),(a.2.1,a.2.2))) [(0,0)] ?_ (Res.one rfl (Rs.cell rfl rfl ZM rfl)) rfl ⟨rfl,trivial⟩ rfl rfl
 (dsimp only; exact ⟨Wq.1,Wq.2,by omega⟩)
 refine w2 ?_
 refine Q8 23 [(0,0)] (Kk code (pkA 8 at_) (pkS code at_ sd 8) (by omega)) Qjb e1_ ⟨rfl,trivial⟩ rfl (fun _=>rfl) (fun _=>⟨trivial,trivial⟩) (nlr rfl) fun b k=> ?_
 refine w3 ?_
 subst d
 refine QP (x:=((b.1.1,(b.1.2.1,b.1.2.2)),(b.2.1,b.2.2))) [(0,0)] ?_ (Res.one rfl (Rs.cell rfl rfl ZM rfl)) rfl ⟨rfl,trivial⟩ rfl rfl
 (dsimp only; have o:=‹_≤8∧_∧_›; omega)
end Go.Proofs.YtndabgcpnmeeoaaGreat
