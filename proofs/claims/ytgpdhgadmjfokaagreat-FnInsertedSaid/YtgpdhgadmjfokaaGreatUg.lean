/- Walks over abstract states: the signs by which a block becomes a partition, both sides. -/
import Derived.Test.YtgpdhgadmjfokaaGreatUb
import Derived.Test.YtgpdhgadmjfokaaGreatAx
set_option linter.unusedSimpArgs false
set_option linter.unusedVariables false
set_option linter.unusedSectionVars false
namespace Go.Proofs.YtgpdhgadmjfokaaGreat
open Go.RowKit
set_option maxRecDepth 100000
set_option maxHeartbeats 4000000
def sg0 (n:Nat)(block:List Int):List UInt8:=(List.range n).map fun k:Nat=>if (k:Int)∈block then (49:UInt8) else 48
def Xf (block:List Int)(s:List UInt8)(a:DAr):List UInt8:=if¬a.1∈block∧a.2.2.2∈block then s.set a.2.2.2.toNat 43 else if a.1∈block∧¬a.2.2.2∈block then s.set a.2.2.2.toNat 45 else s
def inA (c:DSg)(a:DAr):Bool:=decide (a.2.1 < 0)||decide (((c.1[a.2.1.toNat]?).getD (ByteArray.empty,0)).2=1)
def sAt (s:List UInt8)(x:Int):UInt8:=(s[x.toNat]?).getD 0
def ZJ (c:DSg)(block:List Int)(s:List UInt8)(a:DAr):List UInt8:=if (sAt s a.1=43∨sAt s a.1=45)∧inA c a=true∧(a.1∈block↔a.2.2.2∈block) then s.set a.2.2.2.toNat (sAt s a.1) else s
def ZN (c:DSg)(block:List Int)(s:List UInt8):List UInt8:=c.2.2.foldl (ZJ c block) s
def ZV (c:DSg)(block:List Int):List UInt8:=c.2.2.foldl (Xf block) (sg0 c.2.1.length block)
def QrV (c:DSg)(block:List Int):List UInt8:=Q3 (ZN c block) c.2.1.length (ZV c block)
def J0 (c:DSg)(block:List Int):ByteArray:=⟨(QrV c block).toArray⟩
structure SI (n:Nat) (block:List Int) (s:List UInt8):Prop where
  len:s.length=n
  at_:∀x:Int,0≤x→x < (n:Int)→(x∈block∧(sAt s x=49∨sAt s x=43))∨(¬x∈block∧(sAt s x=48∨sAt s x=45))
def nMk (s:List UInt8):Nat:=(s.filter fun x=>decide (x=43∨x=45)).length
def cMk (s:List UInt8):Nat:=(s.filter fun x=> !decide (x=43∨x=45)).length
section
variable {c:DSg}{as_:List DAr}{a:DAr}{block:List Int}{k i n m:Nat}{s s2 sg:List UInt8}{x y:Int}{z zf zt u v:UInt8}{ch:Bool}
theorem QuU (l:List UInt8):(⟨l.toArray⟩:ByteArray).toList=l:=by simp[bt]
theorem QlF {α:Type}{l:List α}{j:Nat}{w:α}(h:l[j]? =some w):l.set j w=l:=by
 apply bF
 intro i
 by_cases e:j=i
 ·subst e; rw[aX (ae.1 h).1,h]
 ·rw[bh e]
theorem Hb (h:s[x.toNat]? =some z):sAt s x=z:=by unfold sAt; rw[h]; rfl
theorem Qqx (f:s.length=n)(h0:0≤y)(b:y < (n:Int))(d:0≤x):sAt (s.set y.toNat z) x=if x=y then z else sAt s x:=by
 unfold sAt
 by_cases e:x=y
 ·subst e; rw[aX (by omega),if_pos rfl]; rfl
 ·rw[bh (by omega),if_neg e]
theorem QbH:(sg0 n block).length=n:=by simp[sg0]
theorem Qq0 (h:(k:Int)∈block)(e:(49:UInt8)=z):sg0 k block++[z]=sg0 (k+1) block:=by subst e; simp[sg0,cN,h]
theorem QsT (h:¬(k:Int)∈block)(e:(48:UInt8)=z):sg0 k block++[z]=sg0 (k+1) block:=by subst e; simp[sg0,cN,h]
theorem Qny:SI n block (sg0 n block):=⟨QbH,fun x d e=>by
 have b:(sg0 n block)[x.toNat]? =some (if x∈block then (49:UInt8) else 48):=by
  unfold sg0
  rw[aW,List.getElem?_range (by omega)]
  simp only[db]
  rw[show ((x.toNat:Nat):Int)=x by omega]
 rw[Hb b]
 by_cases h:x∈block <;> simp[h]⟩
theorem SI.set (h:SI n block s)(h0:0≤y)(g:y < (n:Int))(j:(y∈block∧z=43)∨(¬y∈block∧z=45)):SI n block (s.set y.toNat z):=by
 refine ⟨by rw[ay]; exact h.len,fun x f l=> ?_⟩
 rw[Qqx h.len h0 g f]
 by_cases e:x=y
 ·subst e
  rw[if_pos rfl]
  rcases j with ⟨b,d⟩ | ⟨b,d⟩
  ·exact .inl ⟨b, .inr d⟩
  ·exact .inr ⟨b, .inr d⟩
 ·rw[if_neg e]; exact h.at_ x f l
theorem SI.mark (h:SI n block s)(b:InR n a):SI n block (Xf block s a):=by
 unfold Xf
 split
 ·rename_i g; exact h.set b.2.1 b.2.2 (.inl ⟨g.2,rfl⟩)
 ·split
  ·rename_i g; exact h.set b.2.1 b.2.2 (.inr ⟨g.2,rfl⟩)
  ·exact h
theorem QcQ:∀{as_:List DAr} {s:List UInt8},(∀a∈as_,InR n a)→SI n block s→SI n block (as_.foldl (Xf block) s)
 | [],_,_,h=>h
 | a :: as_,s,hr,h=>by
  rw[ba]
  exact QcQ (fun b d=>hr b (av _ d)) (h.mark (hr a (ax ..)))
theorem SI.val (h:SI n block s)(j:InR n a)(d:sAt s a.1=43∨sAt s a.1=45)(f:a.1∈block↔a.2.2.2∈block):(a.2.2.2∈block∧sAt s a.1=43)∨(¬a.2.2.2∈block∧sAt s a.1=45):=by
 rcases h.at_ a.1 j.1.1 j.1.2 with ⟨e,b⟩ | ⟨e,b⟩
 ·refine .inl ⟨f.1 e, ?_⟩
  rcases b with b | b
  ·rw[b] at d; rcases d with d | d <;> exact absurd d (by decide)
  ·exact b
 ·refine .inr ⟨fun g=>e (f.2 g), ?_⟩
  rcases b with b | b
  ·rw[b] at d; rcases d with d | d <;> exact absurd d (by decide)
  ·exact b
theorem Qhn (q:UInt8→Bool):∀{s:List UInt8} {j:Nat} {u v:UInt8},s[j]? =some u→q u=false→q v=true→((s.set j v).filter q).length=(s.filter q).length+1
 | [],j,u,v,h,_,_=>by simp at h
 | w :: s,0,u,v,h,h1,h2=>by
  simp at h; subst h
  simp[h1,h2]
 | w :: s,j+1,u,v,h,h1,h2=>by
  have b:=Qhn q (s:=s) (j:=j) (by simpa using h) h1 h2
  rw[cD]
  by_cases e:q w=true
  ·rw[List.filter_cons_of_pos e,List.filter_cons_of_pos e,ap,ap,b]
  ·rw[List.filter_cons_of_neg e,List.filter_cons_of_neg e,b]
theorem Qek (q:UInt8→Bool):∀{s:List UInt8} {j:Nat} {u v:UInt8},s[j]? =some u→q u=true→q v=false→((s.set j v).filter q).length+1=(s.filter q).length
 | [],j,u,v,h,_,_=>by simp at h
 | w :: s,0,u,v,h,h1,h2=>by
  simp at h; subst h
  simp[h1,h2]
 | w :: s,j+1,u,v,h,h1,h2=>by
  have b:=Qek q (s:=s) (j:=j) (by simpa using h) h1 h2
  rw[cD]
  by_cases e:q w=true
  ·rw[List.filter_cons_of_pos e,List.filter_cons_of_pos e,ap,ap,b]
  ·rw[List.filter_cons_of_neg e,List.filter_cons_of_neg e,b]
theorem Qcx (h:SI n block s)(f:InR n a):SI n block (ZJ c block s a)∧(ZJ c block s a=s∨(nMk s < nMk (ZJ c block s a)∧cMk (ZJ c block s a) < cMk s)):=by
 unfold ZJ
 split
 ·rename_i g
  have q:=h.val f g.1 g.2.2
  refine ⟨h.set f.2.1 f.2.2 q, ?_⟩
  have r:=h.len
  have l:s[a.2.2.2.toNat]? =some (sAt s a.2.2.2):=by
   unfold sAt
   rw[aj (by have:=f.2; omega)]; rfl
  by_cases e:sAt s a.2.2.2=sAt s a.1
  ·exact .inl (by rw[← e]; exact QlF l)
  ·right
   have b:¬(sAt s a.2.2.2=43∨sAt s a.2.2.2=45):=fun b=>by
    rcases h.at_ a.2.2.2 f.2.1 f.2.2 with ⟨j,d⟩ | ⟨j,d⟩ <;> rcases q with ⟨o,p⟩ | ⟨o,p⟩
    ·rcases d with d | d
     ·rw[d] at b; rcases b with b | b <;> exact absurd b (by decide)
     ·exact e (d.trans p.symm)
    ·exact o j
    ·exact j o
    ·rcases d with d | d
     ·rw[d] at b; rcases b with b | b <;> exact absurd b (by decide)
     ·exact e (d.trans p.symm)
   constructor
   ·unfold nMk
    rw[Qhn _ l (aI b) (aT g.1)]; omega
   ·unfold cMk
    have:=Qek (fun x=> !decide (x=43∨x=45)) l (by simp only[aI b]; rfl) (v:=sAt s a.1) (by simp only[aT g.1]; rfl)
    omega
 ·exact ⟨h, .inl rfl⟩
theorem Kc:∀{as_:List DAr} {s:List UInt8},(∀a∈as_,InR n a)→SI n block s→SI n block (as_.foldl (ZJ c block) s)∧(as_.foldl (ZJ c block) s=s∨nMk s < nMk (as_.foldl (ZJ c block) s))
 | [],_,_,h=>⟨h, .inl rfl⟩
 | a :: as_,s,hr,h=>by
  obtain ⟨f,e⟩:=Qcx (c:=c) h (hr a (ax ..))
  obtain ⟨g,d⟩:=Kc (fun b j=>hr b (av _ j)) f
  refine ⟨g, ?_⟩
  rw[ba]
  rcases e with e | ⟨e,_⟩ <;> rcases d with d | d
  ·exact .inl (d.trans e)
  ·rw[e] at d ⊢; exact .inr d
  ·rw[d]; exact .inr e
  ·exact .inr (by omega)
theorem QcJ (f:List UInt8→List UInt8)(b:∀s,SI n block s→SI n block (f s))(h:SI n block s):∀k,SI n block (Q3 f k s)
 | 0=>h
 | k+1=>b _ (QcJ f b h k)
theorem Qg8 (b:∀a∈c.2.2,InR c.2.1.length a):SI c.2.1.length block (ZV c block):=QcQ b Qny
theorem QjG (b:∀a∈c.2.2,InR c.2.1.length a)(h:SI c.2.1.length block s):SI c.2.1.length block (ZN c block s):=(Kc b h).1
theorem QjC (b:∀a∈c.2.2,InR c.2.1.length a):SI c.2.1.length block (QrV c block):=QcJ _ (fun _ h=>QjG b h) (Qg8 b) _
theorem QfE (f:SgOk c):SignsOk c (J0 c block):=by
 have l:∀a∈c.2.2,InR c.2.1.length a:=fun a g=>UK (f.arcs a g)
 have b:=QjC (block:=block) l
 refine ⟨fun x d=> ?_, ?_,f⟩
 ·unfold J0 at d
  rw[QuU] at d
  obtain ⟨j,e⟩:=aJ.1 d
  have o:=(ae.1 e).1
  have:=b.at_ (j:Int) (by omega) (by have:=b.len; omega)
  rw[Hb (by simpa using e)] at this
  rcases this with ⟨_,h | h⟩ | ⟨_,h | h⟩
  ·exact .inr (.inr (.inl h))
  ·exact .inr (.inl h)
  ·exact .inl h
  ·exact .inr (.inr (.inr h))
 ·show (QrV c block).toArray.size=_
  simpa using b.len
theorem Qnp (d:∀a∈c.2.2,InR c.2.1.length a):((c.2.2.take k).foldl (Xf block) (sg0 c.2.1.length block)).length=c.2.1.length:=(QcQ (fun a b=>d a (List.mem_of_mem_take b)) Qny).len
theorem Qp4 (e:as_[k]? =some a)(b:¬a.1∈block)(d:a.2.2.2∈block):((as_.take k).foldl (Xf block) s).set a.2.2.2.toNat 43=(as_.take (k+1)).foldl (Xf block) s:=by
 rw[QI e,bE]; simp[Xf,b,d]
theorem Qor (e:as_[k]? =some a)(b:a.1∈block)(d:¬a.2.2.2∈block):((as_.take k).foldl (Xf block) s).set a.2.2.2.toNat 45=(as_.take (k+1)).foldl (Xf block) s:=by
 rw[QI e,bE]; simp[Xf,b,d]
theorem QeZ (b:as_[k]? =some a)(h:a.1∈block↔a.2.2.2∈block):(as_.take k).foldl (Xf block) s=(as_.take (k+1)).foldl (Xf block) s:=by
 rw[QI b,bE]
 simp only[ba,cq,Xf]
 by_cases e:a.1∈block
 ·simp[e,h.1 e]
 ·have:¬a.2.2.2∈block:=fun g=>e (h.2 g)
  simp[e,this]
structure PI (c:DSg) (block:List Int) (sg:List UInt8) (i:Nat) (s:List UInt8) (ch:Bool):Prop where
  si:SI c.2.1.length block s
  eq:ZN c block sg=(c.2.2.drop i).foldl (ZJ c block) s
  no:ch=false→s=sg
  yes:ch=true→cMk s < cMk sg
  le:cMk s≤cMk sg
theorem PI.start (h:SI c.2.1.length block sg):PI c block sg 0 sg false:=⟨h,rfl,fun _=>rfl,(fun h=>by cases h),aM _⟩
theorem QjO (e:as_[i]? =some a):as_.drop i=a :: as_.drop (i+1):=by
 obtain ⟨b,d⟩:=ae.1 e
 rw[List.drop_eq_getElem_cons b,d]
theorem PI.skip (h:PI c block sg i s ch)(d:c.2.2[i]? =some a)(b:ZJ c block s a=s):PI c block sg (i+1) s ch:=⟨h.si,by rw[h.eq,QjO d,ba,b],h.no,h.yes,h.le⟩
theorem Qvq (h:PI c block sg i s ch)(t:∀a∈c.2.2,InR c.2.1.length a)(j:c.2.2[i]? =some a)(p:s[a.1.toNat]? =some u)(f:s[a.2.2.2.toNat]? =some v)(r:u=43∨u=45)(hi:inA c a=true)(hb:a.1∈block↔a.2.2.2∈block)(d:¬v=u):PI c block sg (i+1) (s.set a.2.2.2.toNat u) true:=by
 have q:=t a (ai j)
 have b:ZJ c block s a=s.set a.2.2.2.toNat u:=by
  unfold ZJ
  rw[Hb p,if_pos ⟨r,hi,hb⟩]
 obtain ⟨l,o⟩:=Qcx (c:=c) h.si q
 rw[b] at l o
 have w:¬s.set a.2.2.2.toNat u=s:=fun e=>by
  have g:(s.set a.2.2.2.toNat u)[a.2.2.2.toNat]? =some u:=aX (ae.1 f).1
  rw[e,f] at g
  cases g; exact d rfl
 have A:=(o.resolve_left w).2
 have:=h.le
 exact ⟨l,by rw[h.eq,QjO j,ba,b],(fun h=>by cases h),fun _=>by omega,by omega⟩
theorem PI.end_ (h:PI c block sg i s ch)(hi:c.2.2.length≤i):s=ZN c block sg:=by rw[h.eq,bD hi]; rfl
theorem Ug (b:s[a.1.toNat]? =some u)(h:¬(u=43∨u=45)):ZJ c block s a=s:=by unfold ZJ; rw[Hb b,if_neg fun g=>h g.1]
theorem VQ (h:¬inA c a=true):ZJ c block s a=s:=by unfold ZJ; rw[if_neg fun g=>h g.2.1]
theorem V8 (h:¬(a.1∈block↔a.2.2.2∈block)):ZJ c block s a=s:=by unfold ZJ; rw[if_neg fun g=>h g.2.2]
theorem QbF {c:DSg}{a:DAr}(h:UV (c.1.length:Int) (a.2.1,a.2.2.1)):a.2.1 < (c.1.length:Int):=by
 rcases h with h | h
 ·have:=h.2; simp only at this; omega
 ·have:=h.1; simp only at this; omega
end
theorem X2 (a:QeQ)(l:List Int):FC Tryz.prog 341 [(true,[dI a.1,dI a.2.1,dB a.2.2.1,dI a.2.2.2]),(false,[.dat QO l])] [] 0 (Q7 (lI (if¬a.1∈l∧a.2.2.2∈l then 1 else if a.1∈l∧¬a.2.2.2∈l then 2 else (0:Int)))):=by
 refine Qu Tryz.func341 rfl rfl Tryz.ntmps341 fun t g r o w q p=> ?_
 refine acG 0 0 fun _=> ?_
 refine acG 0 1 fun _=> ?_
 refine acG 0 3 fun _=> ?_
 refine w_ ?_
 refine xbx 0 ?_
 refine w8 ?_
 refine lc (dK (Yg l a.1) Xn) ?_
 refine w2 ?_
 cases b:(decide (a.1∈l))
 have d:=aa b
 refine w3 ?_
 refine lgy rfl rfl (dK (Yg l a.2.2.2) Xn) ?_
 refine w3 ?_
 refine cd_ (fun _ _=> ?_) fun _ _=> ?_
 refine w4 ?_
 refine lc (dK (Yg l a.1) Xn) ?_
 refine w_ ?_
 have h:(decide (a.1∈l))=false:=b
 try rw[h]
 refine w14 ?_
 refine Qe<|fqI g ?_
 ·(simp_all; done)
 refine w3 ?_
 refine Qe<|fqI g ?_
 ·(simp_all; done)
 have d:=ab b
 refine w12 ?_
 refine lc (dK (Yg l a.1) Xn) ?_
 refine w_ ?_
 have j:(decide (a.1∈l))=true:=b
 try rw[j]
 refine w3 ?_
 refine lgy rfl rfl (dK (Yg l a.2.2.2) Xn) ?_
 refine w4 ?_
 cases e:(decide (a.2.2.2∈l))
 have f:=aa e
 refine w4 ?_
 refine Qe<|fqI g ?_
 ·(simp_all; done)
 have f:=ab e
 refine w6 ?_
 refine Qe<|fqI g ?_
 ·(simp_all; done)
end Go.Proofs.YtgpdhgadmjfokaaGreat
namespace Go.Proofs.YtgpdhgadmjfokaaGreat
open Go.RowKit
set_option maxRecDepth 100000
set_option maxHeartbeats 4000000
def sgF (n:Nat)(block:List Int)(k:Nat):List UInt8:=sg0 k block++List.replicate (n - k) 0
def okB (c:DSg)(p r:Int×Bool):Bool:=Y8 c (J0 c (Qk c p r))&&(decide (0 < ((Qk c p r).length:Int))&&decide (((Qk c p r).length:Int) < (c.2.1.length:Int)))
def QvZ (c:DSg)(p r:Int×Bool):ByteArray:=if okB c p r=true then J0 c (Qk c p r) else ⟨#[]⟩
section
variable {c:DSg}{as_:List DAr}{a:DAr}{block:List Int}{k i j n:Nat}{s:List UInt8}{u:UInt8}{p r:Int×Bool}{x:QB}
theorem Qqa (h:k≤n):(sgF n block k).length=n:=by unfold sgF; rw[ah,QbH,aK]; omega
theorem QkB (h:k < n)(z:UInt8):(sgF n block k).set k z=(sg0 k block++[z])++List.replicate (n - (k+1)) 0:=by
 unfold sgF
 rw[List.set_append_right _ _ (by rw[QbH]; omega),QbH,dD,show n - k=(n - (k+1))+1 by omega,List.replicate_succ,List.set_cons_zero,aO]
 rfl
theorem Qps (h:k < n)(hb:¬(k:Int)∈block):(sgF n block k).set k 48=sgF n block (k+1):=by
 rw[QkB h,QsT hb rfl]; rfl
theorem QkK (h:k < n)(hb:(k:Int)∈block):((sgF n block k).set k 48).set k 49=sgF n block (k+1):=by
 rw[dl,QkB h,Qq0 hb rfl]; rfl
theorem Qra:sgF n block n=sg0 n block:=by unfold sgF; rw[dD]; simp
theorem QnU:List.replicate n (0:UInt8)=sgF n block 0:=by simp[sgF,sg0]
theorem QtH {A B:Prop}[Decidable A][Decidable B](h:(if A then 1 else if B then 2 else (0:Int))=1):A:=by
 split at h
 ·assumption
 ·split at h <;> exact absurd h (by decide)
theorem QtT {A B:Prop}[Decidable A][Decidable B](h:(if A then 1 else if B then 2 else (0:Int))=2):B:=by
 split at h
 ·exact absurd h (by decide)
 ·split at h
  ·assumption
  ·exact absurd h (by decide)
theorem Qlu {A B:Prop}[Decidable A][Decidable B](h:(if¬A∧B then 1 else if A∧¬B then 2 else (0:Int))=0):A↔B:=by
 by_cases b:A <;> by_cases d:B <;> simp[b,d] at h ⊢
theorem QrE {A B:Prop}[Decidable A][Decidable B](b:¬(if¬A∧B then 1 else if A∧¬B then 2 else (0:Int))=1)(d:¬(if¬A∧B then 1 else if A∧¬B then 2 else (0:Int))=2):A↔B:=by
 by_cases e:A <;> by_cases f:B <;> simp[e,f] at b d ⊢
theorem QmD {A B:Prop}[Decidable A][Decidable B](h:¬(if¬A∧B then 1 else if A∧¬B then 2 else (0:Int))=0):¬(A↔B):=fun g=>by
 by_cases b:A <;> by_cases d:B <;> simp[b,d] at h g
theorem Qej (h:decide (u=43)=false)(b:decide (u=45)=false):¬(u=43∨u=45):=fun g=>g.elim (aa h) (aa b)
theorem QfM (b:as_[k]? =some a)(h:(if¬a.1∈block∧a.2.2.2∈block then 1 else if a.1∈block∧¬a.2.2.2∈block then 2 else (0:Int))=1):((as_.take k).foldl (Xf block) s).set a.2.2.2.toNat 43=(as_.take (k+1)).foldl (Xf block) s:=Qp4 b (QtH h).1 (QtH h).2
theorem Qfb (b:as_[k]? =some a)(h:(if¬a.1∈block∧a.2.2.2∈block then 1 else if a.1∈block∧¬a.2.2.2∈block then 2 else (0:Int))=2):((as_.take k).foldl (Xf block) s).set a.2.2.2.toNat 45=(as_.take (k+1)).foldl (Xf block) s:=Qor b (QtT h).1 (QtT h).2
theorem Qs7 (h:a.2.1 < 0):true=inA c a:=by unfold inA; rw[aT h]; rfl
theorem QrP (h:¬a.2.1 < 0)(b:c.1[a.2.1.toNat]? =some x):decide (x.2=1)=inA c a:=by unfold inA; rw[aI h,b]; rfl
theorem H5 (e:as_[i]? =some a)(b:((as_.take i).foldl (ZJ c block) s)[a.1.toNat]? =some u)(d:u=43∨u=45)(hi:inA c a=true)(hb:a.1∈block↔a.2.2.2∈block):((as_.take i).foldl (ZJ c block) s).set a.2.2.2.toNat u=(as_.take (i+1)).foldl (ZJ c block) s:=by
 rw[QI e,bE,ba,cq,ZJ,Hb b,if_pos ⟨d,hi,hb⟩]
theorem XZ (b:as_[i]? =some a)(h:ZJ c block ((as_.take i).foldl (ZJ c block) s) a=(as_.take i).foldl (ZJ c block) s):(as_.take i).foldl (ZJ c block) s=(as_.take (i+1)).foldl (ZJ c block) s:=by
 rw[QI b,bE,ba,cq,h]
theorem Qr0 (b:∀a∈c.2.2,InR c.2.1.length a)(j i:Nat):((c.2.2.take i).foldl (ZJ c block) (Q3 (ZN c block) j (ZV c block))).length=c.2.1.length:=
 (Kc (fun a d=>b a (List.mem_of_mem_take d)) (QcJ _ (fun _ h=>QjG b h) (Qg8 b) j)).1.len
theorem QtN (h:Y8 c (J0 c (Qk c p r))=false):okB c p r=false:=by unfold okB; rw[h]; rfl
theorem Qsh (h:Y8 c (J0 c (Qk c p r))=true)(b:0 < ((Qk c p r).length:Int)):decide (((Qk c p r).length:Int) < (c.2.1.length:Int))=okB c p r:=by unfold okB; rw[h,aT b]; rfl
theorem Qtl (d:∀a∈c.2.2,InR c.2.1.length a)(h:Y8 c (J0 c (Qk c p r))=true)(b:0 < ((Qk c p r).length:Int)):decide (((Qk c p r).length:Int) < ((Q3 (ZN c (Qk c p r)) c.2.1.length (ZV c (Qk c p r))).length:Int))=okB c p r:=by
 have:(Q3 (ZN c (Qk c p r)) c.2.1.length (ZV c (Qk c p r))).length=c.2.1.length:=(QjC (block:=Qk c p r) d).len
 rw[this]; exact Qsh h b
theorem QsR (b:¬0 < ((Qk c p r).length:Int)):false=okB c p r:=by unfold okB; rw[aI b]; simp
end
theorem Qhs {c:DSg}{p r:Int×Bool}(d:∀a∈c.2.2,InR c.2.1.length a):(Qk c p r).length≤c.2.1.length:=by
 have:=Hl (Uu c p r).str (lo:=0) (hi:=c.2.1.length) (fun x e=>QfX (fun a b=>(d a b).2) ((Uu c p r).cl x e)) (by omega)
 omega
theorem K4 (c:Z9)(p:QdA)(r:QdA)(K:SgOk c):FC Tryz.prog 235 [(true,[.dat Qj c.1, .dat Qm c.2.1, .dat Qw c.2.2]),(true,[dI p.1,dB p.2]),(true,[dI r.1,dB r.2])] [] 0 (Q7 (PV.tup [(false,[dS (J0 c (Qk c p r))]),(false,[dB (okB c p r)])])):=by
 have Y:∀a∈c.2.2,InR c.2.1.length a:=fun a ha=>UK (K.arcs a ha)
 have d1:(List.replicate c.2.1.length (Ty.zero .u8)).length=c.2.1.length:=aK ..
 have d0:=K.some_
 have c7:=K.few
 have c6:=Qhs (p:=p) (r:=r) Y
 refine Qu Tryz.func235 rfl rfl Tryz.ntmps235 fun O_ hO d3 c3 X_ c5 c4=> ?_
 refine acG 1 0 fun _=> ?_
 refine acG 2 0 fun _=> ?_
 refine w_ ?_
 refine xbx 0 ?_
 refine xbx 1 ?_
 refine xbx 2 ?_
 refine w7 ?_
 refine lc (dO 3 (QaA c p r Y (by omega)) QhD) ?_
 refine w5 ?_
 refine alL 21 fun _=> ?_
 refine w_ ?_
 refine lc (VU 4 (e:= .u8) (n:=c.2.1.length) (Qa rfl) (Qa rfl) Z7 Qrs rfl (by omega) (by omega) rfl (Fresh.of rfl) (nlr rfl)) ?_
 refine w9 ?_
 refine lp0 c.2.1.length (fun k=>⟨[(3,lP 0 0),(6,lf (dS (⟨#[]⟩:ByteArray))),(7,lB false),(8,lR 3),(9,lR 5),(25,lI ((List.replicate c.2.1.length (Ty.zero .u8)).length:Int)),(26,lI (k:Int))],[bx 0 27 [.dat Qj c.1, .dat Qm c.2.1, .dat Qw c.2.2],(3,some (.arr 3 .int (Qk c p r))),(5,some (.arr 5 .u8 (sgF c.2.1.length (Qk c p r) k)))]⟩) ?_ fun k _=> ?_
 exact wp [(5,4)] ⟨rfl,rfl,(Qh (QnU)),trivial⟩
 have d2:=Qqa (n:=c.2.1.length) (block:=(Qk c p r)) (k:=k) (by omega)
 refine w4 ?_
 cases a0:(decide ((k:Int) < ((List.replicate c.2.1.length (Ty.zero .u8)).length:Int)))
 have a1:=aa a0
 refine w4 ?_
 refine Z6 ?_
 obtain rfl:k=c.2.1.length:=by omega
 rw[Qra]
 refine w3 ?_
 refine alL 40 fun _=> ?_
 refine w4 ?_
 refine lp0 c.2.2.length (fun k=>⟨[(3,lP 0 0),(6,lf (dS (⟨#[]⟩:ByteArray))),(7,lB false),(8,lR 3),(9,lR 6),(40,lf (.dat Qw c.2.2)),(41,lI (c.2.2.length:Int)),(42,lI (k:Int))],[bx 0 27 [.dat Qj c.1, .dat Qm c.2.1, .dat Qw c.2.2],(3,some (.arr 3 .int (Qk c p r))),(6,some (.arr 5 .u8 ((c.2.2.take k).foldl (Xf (Qk c p r)) (sg0 c.2.1.length (Qk c p r)))))]⟩) ?_ fun k _=> ?_
 exact wp [(6,5)] ⟨rfl,rfl,(Qh (by simp only[dc,cq])),trivial⟩
 have c8:=Qnp (block:=(Qk c p r)) (k:=k) Y
 refine w4 ?_
 cases a2:(decide ((k:Int) < (c.2.2.length:Int)))
 have a3:=aa a2
 refine w7 ?_
 refine alL 63 fun _=> ?_
 refine w4 ?_
 refine lp0 c.2.1.length (fun j=>⟨[(3,lP 0 0),(6,lf (dS (⟨#[]⟩:ByteArray))),(7,lB false),(8,lR 3),(9,lR 7),(64,lI (c.2.1.length:Int)),(65,lI (j:Int))],[bx 0 27 [.dat Qj c.1, .dat Qm c.2.1, .dat Qw c.2.2],(3,some (.arr 3 .int (Qk c p r))),(7,some (.arr 5 .u8 (Q3 (ZN c (Qk c p r)) j (ZV c (Qk c p r)))))]⟩) ?_ fun j _=> ?_
 exact wp [(7,6)] ⟨rfl,rfl,(Qh (by rw[Q5 (by omega)]; rfl)),trivial⟩
 refine w4 ?_
 cases A:(decide ((j:Int) < (c.2.1.length:Int)))
 have N:=aa A
 refine w3 ?_
 obtain rfl:j=c.2.1.length:=by omega
 cases q:(Y8 c (⟨(Q3 (ZN c (Qk c p r)) c.2.1.length (ZV c (Qk c p r))).toArray⟩:ByteArray))
 apply dW (io 121 _ :: io 122 (lf (dS (⟨(Q3 (ZN c (Qk c p r)) c.2.1.length (ZV c (Qk c p r))).toArray⟩:ByteArray))) :: i2 123 _ _ (io 125 (lf (dS (⟨(Q3 (ZN c (Qk c p r)) c.2.1.length (ZV c (Qk c p r))).toArray⟩:ByteArray))) :: io 126 (lB false) :: i9 127 _ _ _ _ _ _ _ _ _ (i3 136 _ _ _ (i2 6 _ _ [])))) [0,0,3,7,7,3,3,3,3,3,3,3,3,3,12291,12291,3,3,258048,0]
 refine z_ ?_
 refine zz (fun _ d=>ac (Zk (ys:=Q3 (ZN c (Qk c p r)) c.2.1.length (ZV c (Qk c p r))) (YY (d.v rfl) (d.n 7 rfl)) Z7 WR Q9 rfl) rfl) ?_
 refine z2 ?_
 refine zz (fun _ d=>ac (Zk (ys:=Q3 (ZN c (Qk c p r)) c.2.1.length (ZV c (Qk c p r))) (YY (d.v rfl) (d.n 7 rfl)) Z7 WR Q9 rfl) rfl) ?_
 refine zz (fun _ d=>ac (Qy (q) (dK (YA c (⟨(Q3 (ZN c (Qk c p r)) c.2.1.length (ZV c (Qk c p r))).toArray⟩:ByteArray) (QfE (block:=Qk c p r) K)) W2)) rfl) ?_
 exact y14
 refine w_ ?_
 have a9:((⟨(Q3 (ZN c (Qk c p r)) c.2.1.length (ZV c (Qk c p r))).toArray⟩:ByteArray):ByteArray)=(J0 c (Qk c p r)):=by
  rfl
 have b0:(false:Bool)=(okB c p r):=by
  exact (QtN ‹_›).symm
 exact fr_ hO (e:=by rw[a9,← b0] <;> rfl)
 cases m:(decide (0 < ((Qk c p r).length:Int)))
 have O:=aa m
 apply dW (io 121 _ :: io 122 (lf (dS (⟨(Q3 (ZN c (Qk c p r)) c.2.1.length (ZV c (Qk c p r))).toArray⟩:ByteArray))) :: i2 123 _ _ (io 125 (lf (dS (⟨(Q3 (ZN c (Qk c p r)) c.2.1.length (ZV c (Qk c p r))).toArray⟩:ByteArray))) :: io 126 (lB true) :: i3 127 _ _ _ (io 130 (lB false) :: i8 131 _ _ _ _ _ _ _ _ (i2 6 _ _ [])))) [0,0,3,7,7,3,3,3,3,3,3,3,3,3,12291,12291,3,3,258048,0]
 refine z_ ?_
 refine zz (fun _ d=>ac (Zk (ys:=Q3 (ZN c (Qk c p r)) c.2.1.length (ZV c (Qk c p r))) (YY (d.v rfl) (d.n 7 rfl)) Z7 WR Q9 rfl) rfl) ?_
 refine z2 ?_
 refine zz (fun _ d=>ac (Zk (ys:=Q3 (ZN c (Qk c p r)) c.2.1.length (ZV c (Qk c p r))) (YY (d.v rfl) (d.n 7 rfl)) Z7 WR Q9 rfl) rfl) ?_
 refine zz (fun _ d=>ac (Qy (q) (dK (YA c (⟨(Q3 (ZN c (Qk c p r)) c.2.1.length (ZV c (Qk c p r))).toArray⟩:ByteArray) (QfE (block:=Qk c p r) K)) W2)) rfl) ?_
 refine z3 ?_
 refine zz (fun _ d=>day rfl (d.k rfl) (Qy (m) (J4 (d.v rfl) (Qo rfl) rfl)) rfl) ?_
 exact y10
 refine w_ ?_
 have b1:((⟨(Q3 (ZN c (Qk c p r)) c.2.1.length (ZV c (Qk c p r))).toArray⟩:ByteArray):ByteArray)=(J0 c (Qk c p r)):=by
  rfl
 have b2:(false:Bool)=(okB c p r):=by
  exact QsR ‹_›
 exact fr_ hO (e:=by rw[b1,← b2] <;> rfl)
 have O:=ab m
 apply dW (io 121 _ :: io 122 (lf (dS (⟨(Q3 (ZN c (Qk c p r)) c.2.1.length (ZV c (Qk c p r))).toArray⟩:ByteArray))) :: i2 123 _ _ (io 125 (lf (dS (⟨(Q3 (ZN c (Qk c p r)) c.2.1.length (ZV c (Qk c p r))).toArray⟩:ByteArray))) :: io 126 (lB true) :: i3 127 _ _ _ (io 130 (lB true) :: i8 131 _ _ _ _ _ _ _ _ (i2 6 _ _ [])))) [0,0,3,7,7,3,3,3,3,3,3,3,3,3,12291,12291,3,3,258048,0]
 refine z_ ?_
 refine zz (fun _ d=>ac (Zk (ys:=Q3 (ZN c (Qk c p r)) c.2.1.length (ZV c (Qk c p r))) (YY (d.v rfl) (d.n 7 rfl)) Z7 WR Q9 rfl) rfl) ?_
 refine z2 ?_
 refine zz (fun _ d=>ac (Zk (ys:=Q3 (ZN c (Qk c p r)) c.2.1.length (ZV c (Qk c p r))) (YY (d.v rfl) (d.n 7 rfl)) Z7 WR Q9 rfl) rfl) ?_
 refine zz (fun _ d=>ac (Qy (q) (dK (YA c (⟨(Q3 (ZN c (Qk c p r)) c.2.1.length (ZV c (Qk c p r))).toArray⟩:ByteArray) (QfE (block:=Qk c p r) K)) W2)) rfl) ?_
 refine z3 ?_
 refine zz (fun _ d=>day rfl (d.k rfl) (Qy (m) (J4 (d.v rfl) (Qo rfl) rfl)) rfl) ?_
 exact y10
 refine w_ ?_
 have b3:((⟨(Q3 (ZN c (Qk c p r)) c.2.1.length (ZV c (Qk c p r))).toArray⟩:ByteArray):ByteArray)=(J0 c (Qk c p r)):=by
  rfl
 have b4:(decide (((Qk c p r).length:Int) < ((Q3 (ZN c (Qk c p r)) c.2.1.length (ZV c (Qk c p r))).length:Int)):Bool)=(okB c p r):=by
  exact Qtl Y ‹_› ‹_›
 exact fr_ hO (e:=by rw[b3,b4] <;> rfl)
 have N:=ab A
 refine w7 ?_
 refine alL 68 fun _=> ?_
 refine w4 ?_
 refine lp0 c.2.2.length (fun i=>⟨[(3,lP 0 0),(6,lf (dS (⟨#[]⟩:ByteArray))),(7,lB false),(8,lR 3),(9,lR 8),(64,lI (c.2.1.length:Int)),(65,lI (j:Int)),(66,lB true),(67,lP 0 2),(68,lf (.dat Qw c.2.2)),(69,lI (c.2.2.length:Int)),(70,lI (i:Int))],[bx 0 27 [.dat Qj c.1, .dat Qm c.2.1, .dat Qw c.2.2],(3,some (.arr 3 .int (Qk c p r))),(8,some (.arr 5 .u8 ((c.2.2.take i).foldl (ZJ c (Qk c p r)) (Q3 (ZN c (Qk c p r)) j (ZV c (Qk c p r))))))]⟩) ?_ fun i _=> ?_
 exact wp [(8,7)] ⟨rfl,rfl,(Qh (by simp only[dc,cq])),trivial⟩
 have c9:=Qr0 (block:=(Qk c p r)) Y j i
 refine w4 ?_
 cases B:(decide ((i:Int) < (c.2.2.length:Int)))
 have P:=aa B
 refine w6 ?_
 refine Qc ?_
 refine l0_ ?_
 exact wp [(7,8)] ⟨rfl,rfl,(Qh (by rw[Q5 (by omega)]; rfl)),trivial⟩
 have P:=ab B
 refine w5 ?_
 obtain ⟨ar,b⟩:=gx c.2.2 i
 have o:=Y _ (ai b)
 obtain ⟨⟨b5,b6⟩,b7,b8⟩:=o
 have t:=(K.arcs _ (ai b)).2.2.1
 have a4:ar.2.1 < (c.1.length:Int):=QbF t
 refine w2 ?_
 refine lc (xal 9 QG Zu) ?_
 refine w2 ?_
 refine V5 (fun s_=>∃(z:Bool),(z=inA c ar)∧s_=⟨[(3,lP 0 0),(6,lf (dS (⟨#[]⟩:ByteArray))),(7,lB false),(8,lR 3),(9,lR 8),(14,lP 9 0),(15,lB z),(64,lI (c.2.1.length:Int)),(65,lI (j:Int)),(66,lB true),(67,lP 0 2),(68,lf (.dat Qw c.2.2)),(69,lI (c.2.2.length:Int)),(70,lI (i:Int)),(71,lB true),(72,lf (.elt QG ar 0)),(73,ag [dI ar.1,dI ar.2.1,dB ar.2.2.1,dI ar.2.2.2])],[bx 0 27 [.dat Qj c.1, .dat Qm c.2.1, .dat Qw c.2.2],(3,some (.arr 3 .int (Qk c p r))),(8,some (.arr 5 .u8 ((c.2.2.take i).foldl (ZJ c (Qk c p r)) (Q3 (ZN c (Qk c p r)) j (ZV c (Qk c p r)))))),bx 9 46 [dI ar.1,dI ar.2.1,dB ar.2.2.1,dI ar.2.2.2]]⟩) ?_ fun Z=> ?_
 rintro s_ ⟨z,g,rfl⟩
 refine w3 ?_
 cases c2:(z)
 refine w7 ?_
 refine Qn rfl rfl rfl ?_ rfl
 refine Qn rfl rfl rfl ?_ rfl
 refine Qn rfl rfl rfl ?_ rfl
 refine Qn rfl rfl rfl ?_ rfl
 refine Qn rfl rfl rfl ?_ rfl
 refine Qn rfl rfl rfl ?_ rfl
 refine w15 ?_
 refine Qc ?_
 refine l0_ ?_
 exact wp [] ⟨rfl,rfl,(Qh (by first | exact H5 b l (by first | exact .inl ‹_› | exact .inr ‹_›) (g.symm.trans ‹_›) (Qlu ‹_›) | exact XZ b (VQ (fun h=>absurd ((g.symm.trans (by assumption:z=false)).symm.trans h) (by decide))) | exact XZ b (Ug l (Qej ‹_› ‹_›)) | exact XZ b (V8 (QmD ‹_›)))),trivial⟩
 refine w4 ?_
 obtain ⟨u,y⟩:=gx ((c.2.2.take i).foldl (ZJ c (Qk c p r)) (Q3 (ZN c (Qk c p r)) j (ZV c (Qk c p r)))) ((ar.1).toNat)
 have l:=y
 refine w_ ?_
 refine lgy rfl rfl (Qp (Qa rfl) (Qs 43 rfl) rfl) ?_
 refine w_ ?_
 cases C:(decide (u=43))
 have Q:=aa C
 refine w5 ?_
 refine lgy rfl rfl (Qp (Qa rfl) (Qs 45 rfl) rfl) ?_
 refine w3 ?_
 cases D:(decide (u=45))
 have R:=aa D
 refine w12 ?_
 refine Qc ?_
 refine l0_ ?_
 exact wp [] ⟨rfl,rfl,(Qh (by first | exact H5 b l (by first | exact .inl ‹_› | exact .inr ‹_›) (g.symm.trans ‹_›) (Qlu ‹_›) | exact XZ b (VQ (fun h=>absurd ((g.symm.trans (by assumption:z=false)).symm.trans h) (by decide))) | exact XZ b (Ug l (Qej ‹_› ‹_›)) | exact XZ b (V8 (QmD ‹_›)))),trivial⟩
 have R:=ab D
 refine w2 ?_
 refine lgy rfl rfl (dB_ (X2 ar (Qk c p r)) JN) ?_
 refine w3 ?_
 cases E:(decide ((if¬ar.1∈(Qk c p r)∧ar.2.2.2∈(Qk c p r) then 1 else if ar.1∈(Qk c p r)∧¬ar.2.2.2∈(Qk c p r) then 2 else (0:Int))=0))
 have S:=aa E
 refine w6 ?_
 refine Qc ?_
 refine l0_ ?_
 exact wp [] ⟨rfl,rfl,(Qh (by first | exact H5 b l (by first | exact .inl ‹_› | exact .inr ‹_›) (g.symm.trans ‹_›) (Qlu ‹_›) | exact XZ b (VQ (fun h=>absurd ((g.symm.trans (by assumption:z=false)).symm.trans h) (by decide))) | exact XZ b (Ug l (Qej ‹_› ‹_›)) | exact XZ b (V8 (QmD ‹_›)))),trivial⟩
 have S:=ab E
 refine w_ ?_
 obtain ⟨d4,L⟩:=gx ((c.2.2.take i).foldl (ZJ c (Qk c p r)) (Q3 (ZN c (Qk c p r)) j (ZV c (Qk c p r)))) ((ar.2.2.2).toNat)
 have c0:=L
 apply dV (i6 110 _ _ _ _ _ _ [io 116 (lf (.ept 8 1 ((ar.1).toNat) 0)),io 117 (lf (.dat .u8 u)),io 118 (lf (.ept 8 1 ((ar.2.2.2).toNat) 0)),⟨none,lf (.val undef),[(8,some (.arr 5 .u8 (((c.2.2.take i).foldl (ZJ c (Qk c p r)) (Q3 (ZN c (Qk c p r)) j (ZV c (Qk c p r)))).set ((ar.2.2.2).toNat) u)))]⟩]) [0,1,1,7,15,15,7,7,0,0]
 refine z6 ?_
 refine zz (fun _ d=>ac (QM (e:= .u8) (d.v rfl) (d.en 8 rfl) (d.v rfl) Z7 ZM rfl (by omega) (by first | omega | (simp only[ay]; omega))) rfl)<|zz (fun _ d=>ac (Zv (e:= .u8) (d.v rfl) (d.n 8 rfl) y rfl ZM rfl rfl) rfl)<|zz (fun _ d=>ac (QM (e:= .u8) (d.v rfl) (d.en 8 rfl) (d.v rfl) Z7 ZM rfl (by omega) (by first | omega | (simp only[ay]; omega))) rfl)<|zz (fun _ d=>ac (QA (e:= .u8) (z':=u) (d.v rfl) (d.n 8 rfl) L rfl (d.w rfl) rfl ZM rfl rfl) rfl) ?_
 exact zN
 refine w4 ?_
 refine Qc ?_
 refine l0_ ?_
 exact wp [] ⟨rfl,rfl,(Qh (by first | exact H5 b l (by first | exact .inl ‹_› | exact .inr ‹_›) (g.symm.trans ‹_›) (Qlu ‹_›) | exact XZ b (VQ (fun h=>absurd ((g.symm.trans (by assumption:z=false)).symm.trans h) (by decide))) | exact XZ b (Ug l (Qej ‹_› ‹_›)) | exact XZ b (V8 (QmD ‹_›)))),trivial⟩
 have Q:=ab C
 refine w11 ?_
 refine lgy rfl rfl (dB_ (X2 ar (Qk c p r)) JN) ?_
 refine w3 ?_
 cases F:(decide ((if¬ar.1∈(Qk c p r)∧ar.2.2.2∈(Qk c p r) then 1 else if ar.1∈(Qk c p r)∧¬ar.2.2.2∈(Qk c p r) then 2 else (0:Int))=0))
 have T:=aa F
 refine w6 ?_
 refine Qc ?_
 refine l0_ ?_
 exact wp [] ⟨rfl,rfl,(Qh (by first | exact H5 b l (by first | exact .inl ‹_› | exact .inr ‹_›) (g.symm.trans ‹_›) (Qlu ‹_›) | exact XZ b (VQ (fun h=>absurd ((g.symm.trans (by assumption:z=false)).symm.trans h) (by decide))) | exact XZ b (Ug l (Qej ‹_› ‹_›)) | exact XZ b (V8 (QmD ‹_›)))),trivial⟩
 have T:=ab F
 refine w_ ?_
 obtain ⟨d5,M⟩:=gx ((c.2.2.take i).foldl (ZJ c (Qk c p r)) (Q3 (ZN c (Qk c p r)) j (ZV c (Qk c p r)))) ((ar.2.2.2).toNat)
 have c1:=M
 apply dV (i6 110 _ _ _ _ _ _ [io 116 (lf (.ept 8 1 ((ar.1).toNat) 0)),io 117 (lf (.dat .u8 u)),io 118 (lf (.ept 8 1 ((ar.2.2.2).toNat) 0)),⟨none,lf (.val undef),[(8,some (.arr 5 .u8 (((c.2.2.take i).foldl (ZJ c (Qk c p r)) (Q3 (ZN c (Qk c p r)) j (ZV c (Qk c p r)))).set ((ar.2.2.2).toNat) u)))]⟩]) [0,1,1,7,15,15,7,7,0,0]
 refine z6 ?_
 refine zz (fun _ d=>ac (QM (e:= .u8) (d.v rfl) (d.en 8 rfl) (d.v rfl) Z7 ZM rfl (by omega) (by first | omega | (simp only[ay]; omega))) rfl)<|zz (fun _ d=>ac (Zv (e:= .u8) (d.v rfl) (d.n 8 rfl) y rfl ZM rfl rfl) rfl)<|zz (fun _ d=>ac (QM (e:= .u8) (d.v rfl) (d.en 8 rfl) (d.v rfl) Z7 ZM rfl (by omega) (by first | omega | (simp only[ay]; omega))) rfl)<|zz (fun _ d=>ac (QA (e:= .u8) (z':=u) (d.v rfl) (d.n 8 rfl) M rfl (d.w rfl) rfl ZM rfl rfl) rfl) ?_
 exact zN
 refine w4 ?_
 refine Qc ?_
 refine l0_ ?_
 exact wp [] ⟨rfl,rfl,(Qh (by first | exact H5 b l (by first | exact .inl ‹_› | exact .inr ‹_›) (g.symm.trans ‹_›) (Qlu ‹_›) | exact XZ b (VQ (fun h=>absurd ((g.symm.trans (by assumption:z=false)).symm.trans h) (by decide))) | exact XZ b (Ug l (Qej ‹_› ‹_›)) | exact XZ b (V8 (QmD ‹_›)))),trivial⟩
 refine w3 ?_
 refine alI 75 fun _=> ?_
 refine w2 ?_
 cases G:(decide (ar.2.1 < 0))
 have U:=aa G
 refine w4 ?_
 obtain ⟨sx,a5⟩:=gx c.1 ((ar.2.1).toNat)
 have b9:=a5
 refine w7 ?_
 refine YL (Z _ ⟨(decide (sx.2=1)),(by exact QrP ‹_› b9),rfl⟩) ?_
 exact wo []
 have U:=ab G
 refine w11 ?_
 refine YL (Z _ ⟨true,(by exact Qs7 ‹_›),rfl⟩) ?_
 exact wo []
 have a3:=ab a2
 refine w5 ?_
 obtain ⟨ar,f⟩:=gx c.2.2 k
 have o:=Y _ (ai f)
 obtain ⟨⟨b5,b6⟩,b7,b8⟩:=o
 have t:=(K.arcs _ (ai f)).2.2.1
 have a4:ar.2.1 < (c.1.length:Int):=QbF t
 refine w2 ?_
 refine lc (xal 10 QG Zu) ?_
 refine w5 ?_
 refine lc (dB_ (X2 ar (Qk c p r)) JN) ?_
 refine w6 ?_
 cases H:(decide ((if¬ar.1∈(Qk c p r)∧ar.2.2.2∈(Qk c p r) then 1 else if ar.1∈(Qk c p r)∧¬ar.2.2.2∈(Qk c p r) then 2 else (0:Int))=1))
 have V:=aa H
 refine w5 ?_
 cases I:(decide ((if¬ar.1∈(Qk c p r)∧ar.2.2.2∈(Qk c p r) then 1 else if ar.1∈(Qk c p r)∧¬ar.2.2.2∈(Qk c p r) then 2 else (0:Int))=2))
 have W:=aa I
 refine w6 ?_
 refine Qc ?_
 refine l0_ ?_
 exact wp [] ⟨rfl,rfl,(Qh (by first | exact QfM f ‹_› | exact Qfb f ‹_› | exact QeZ f (QrE ‹_› ‹_›))),trivial⟩
 have W:=ab I
 refine w5 ?_
 refine alI 59 fun _=> ?_
 refine w_ ?_
 obtain ⟨d6,a6⟩:=gx ((c.2.2.take k).foldl (Xf (Qk c p r)) (sg0 c.2.1.length (Qk c p r))) ((ar.2.2.2).toNat)
 refine lc (QA (e:= .u8) (z':=45) (Qa rfl) rfl a6 rfl (Evl.ev (Qs 45 rfl)) rfl ZM rfl rfl)<|Qc ?_
 refine w4 ?_
 refine Qc ?_
 refine l0_ ?_
 exact wp [] ⟨rfl,rfl,(Qh (by first | exact QfM f ‹_› | exact Qfb f ‹_› | exact QeZ f (QrE ‹_› ‹_›))),trivial⟩
 have V:=ab H
 refine w5 ?_
 refine alI 53 fun _=> ?_
 refine w_ ?_
 obtain ⟨d7,a7⟩:=gx ((c.2.2.take k).foldl (Xf (Qk c p r)) (sg0 c.2.1.length (Qk c p r))) ((ar.2.2.2).toNat)
 refine lc (QA (e:= .u8) (z':=43) (Qa rfl) rfl a7 rfl (Evl.ev (Qs 43 rfl)) rfl ZM rfl rfl)<|Qc ?_
 refine w4 ?_
 refine Qc ?_
 refine l0_ ?_
 exact wp [] ⟨rfl,rfl,(Qh (by first | exact QfM f ‹_› | exact Qfb f ‹_› | exact QeZ f (QrE ‹_› ‹_›))),trivial⟩
 have a1:=ab a0
 refine w12 ?_
 obtain ⟨d8,a8⟩:=gx (sgF c.2.1.length (Qk c p r) k) k
 refine lc (QA (e:= .u8) (z':=48) (Qa rfl) rfl a8 rfl (Evl.ev (Qs 48 rfl)) rfl ZM rfl rfl) ?_
 refine w4 ?_
 refine lc (dB_ (Yg (Qk c p r) (k:Int)) Xn) ?_
 refine w_ ?_
 cases J:(decide ((k:Int)∈(Qk c p r)))
 have X:=aa J
 refine w6 ?_
 refine Qc ?_
 refine l0_ ?_
 exact wp [] ⟨rfl,rfl,(Qh (by first | exact QkK (by omega) ‹_› | exact Qps (by omega) ‹_›)),trivial⟩
 have X:=ab J
 refine w5 ?_
 refine lc (QA (e:= .u8) (z':=49) (Qa rfl) rfl (aX (by first | omega | (simp only[ay]; omega))) rfl (Evl.ev (Qs 49 rfl)) rfl ZM rfl rfl) ?_
 refine Qc ?_
 refine w4 ?_
 refine Qc ?_
 refine l0_ ?_
 exact wp [] ⟨rfl,rfl,(Qh (by first | exact QkK (by omega) ‹_› | exact Qps (by omega) ‹_›)),trivial⟩
end Go.Proofs.YtgpdhgadmjfokaaGreat
namespace Go.Proofs.YtgpdhgadmjfokaaGreat
open Go.RowKit
set_option maxRecDepth 100000
set_option maxHeartbeats 4000000
structure SgW (c:DSg):Prop where
  sig8:c.1.length≤8
  some_:1≤c.2.1.length∧c.2.1.length≤300
  few:c.2.2.length≤4000
  arcs:∀a∈c.2.2,InR c.2.1.length a∧UV (c.1.length:Int) (a.2.1,a.2.2.1)
theorem SgOk.w {c:DSg}(h:SgOk c):SgW c:=⟨h.sigs.2.2,h.some_,h.few,fun a b=>⟨UK (h.arcs a b),(h.arcs a b).2.2.1⟩⟩
def mkV (l:Int×Bool):Int:=(if l.2=true then 2 else 1)*2 ^ (2*l.1).toNat
def orA (s:List Int)(a:DAr):List Int:=if 0≤a.2.1 then s.set a.1.toNat (((((s[a.1.toNat]?).getD 0).toNat ||| (mkV (a.2.1,a.2.2.1)).toNat:Nat)):Int) else s
def Qwp (n:Nat)(as_:List DAr):List Int:=as_.foldl orA (List.replicate n 0)
def mAt (l:List Int)(x:Int):Int:=(l[x.toNat]?).getD 0
def Qrp (m:Int)(s:Int):Bool:=decide ((((m / 2 ^ (2*s).toNat).toNat &&& (3:Int).toNat:Nat):Int)=0)
def Qv6 (masks pair:List Int)(s:Int):Bool:= !(Qrp (mAt masks (mAt pair 0)) s==Qrp (mAt masks (mAt pair 1)) s)
def VN (c:DSg)(k s:Int):Bool:=c.2.2.any fun a=>decide (a.1=k∧a.2.1=s)
def cdA (c:DSg)(j:Nat):ByteArray:=(c.2.1[j]?).getD ByteArray.empty
def QvE (c:DSg)(f:Nat→Nat→Bool)(i k:Nat):List (List Int):=((List.range k).filter fun j=>decide (i < j)&&(decide (cdA c j=cdA c i)&&f i j)).map fun j:Nat=>[(i:Int),(j:Int)]
def Qvj (c:DSg)(f:Nat→Nat→Bool)(i:Nat):List (List Int):=(List.range i).flatMap fun i=>QvE c f i c.2.1.length
def Qvm (c:DSg)(i j:Nat):Bool:=(QoC c.1 c.1.length).any fun s=> !(VN c i s==VN c j s)
def Qcy (c:DSg):List (List Int):=Qvj c (Qvm c) c.2.1.length
section
variable {c:DSg}{as_:List DAr}{a:DAr}{i j k n:Nat}{f g:Nat→Nat→Bool}{s x y m:Int}{l masks pair:List Int}{u v:ByteArray}
end
section
variable {c:DSg}{f:Nat→Nat→Bool}{i:Nat}{m:Int}{u v:ByteArray}
end
end Go.Proofs.YtgpdhgadmjfokaaGreat
namespace Go.Proofs.YtgpdhgadmjfokaaGreat
open Go.RowKit
set_option maxRecDepth 100000
set_option maxHeartbeats 4000000
def QdD (c:DSg)(s:ByteArray):Bool:=c.2.2.any fun a=>ZP s a&&K5 c a.2.1
def XX (f:DAr→Bool)(as_:List DAr)(k:Nat):List Int:=((List.range k).filter fun i=>match as_[i]? with | some a=>f a | none=>false).map fun i=>((i:Nat):Int)
def exL (c:DSg)(q sig:Int)(up:Bool):Bool:=c.2.2.any fun a=>decide (a.1=q∧a.2.1=sig∧a.2.2.1=up)
def QsW (c:DSg)(sig:Int)(up:Bool)(a:DAr):Bool:= !decide (a.2.1=sig)&&(exL c a.1 sig up&& !exL c a.2.2.2 sig up)
def Qvl (c:DSg)(sig:Int)(a:DAr):Bool:=QsW c sig false a||QsW c sig true a
abbrev QtF (c:DSg)(sig:Int)(k:Nat):List Int:=XX (Qvl c sig) c.2.2 k
def Qvr (c:DSg)(k:Nat):Int:=((QoC c.1 k).map fun s=>((QtF c s c.2.2.length).length:Int)).sum
def QuO (c:DSg):Int:=Qvr c c.1.length
def QvF (sig:Int)(up:Bool)(l:List Int)(a:DAr):List Int:=if a.2.1=sig∧a.2.2.1=up then ZY ltI a.1 l else l
def exS (sig:Int)(up:Bool)(as_:List DAr):List Int:=as_.foldl (QvF sig up) []
def QsP (c:DSg)(sig:Int)(up:Bool)(l:List Int)(k:Nat):List Int:=(XX (QsW c sig up) c.2.2 k).foldl (fun l i=>ZY ltI i l) l
def Qwd (c:DSg)(sig:Int):Nat→List Int
 | 0=>[]
 | 1=>QsP c sig false [] c.2.2.length
 | _=>QsP c sig true (QsP c sig false [] c.2.2.length) c.2.2.length
section
variable {c:DSg}{as_:List DAr}{a:DAr}{i j k n:Nat}{s:ByteArray}{sig q x y:Int}{up:Bool}{l:List Int}{f g:DAr→Bool}
theorem Hr (b:as_[k]? =some a)(h:f a=true):XX f as_ k++[(k:Int)]=XX f as_ (k+1):=by
 unfold XX
 rw[cN,bG,bB]; simp[b,h]
theorem Qbr (b:as_[k]? =some a)(h:f a=false):XX f as_ k=XX f as_ (k+1):=by
 unfold XX
 rw[cN,bG,bB]; simp[b,h]
theorem Qf8:(XX f as_ k).length≤k:=by unfold XX; rw[aE]; exact bg (cO ..) (by simp)
theorem QcE:x∈XX f as_ k↔∃(j:Nat) (a:DAr),x=(j:Int)∧j < k∧as_[j]? =some a∧f a=true:=by
 unfold XX
 simp only[aR,cA,cU]
 constructor
 ·rintro ⟨j,⟨d,b⟩,rfl⟩
  cases e:as_[j]? with
  | none=>rw[e] at b; cases b
  | some a=>rw[e] at b; exact ⟨j,a,rfl,d,e,b⟩
 ·rintro ⟨j,a,rfl,d,b,h⟩; exact ⟨j,⟨d,by rw[b]; exact h⟩,rfl⟩
theorem Hw {v:Int}(h:(XX f as_ k)[i]? =some v):∃(j:Nat) (a:DAr),v=(j:Int)∧j < k∧as_[j]? =some a∧f a=true:=QcE.1 (ai h)
theorem Qo6 (u:∀j,j < i→∀v,(XX (ZP s) c.2.2 c.2.2.length)[j]? =some v→∀a,c.2.2[v.toNat]? =some a→K5 c a.2.1=false)(h:(XX (ZP s) c.2.2 c.2.2.length).length≤i):true= !QdD c s:=by
 cases e:QdD c s with
 | false=>rfl
 | true=>
  unfold QdD at e
  obtain ⟨a,p,b⟩:=bY.1 e
  rw[aL] at b
  obtain ⟨j,d⟩:=aJ.1 p
  have r:=(ae.1 d).1
  obtain ⟨m,o⟩:=aJ.1 (QcE (k:=c.2.2.length).2 ⟨j,a,rfl,r,d,b.1⟩)
  have t:=(ae.1 o).1
  have:=u m (by omega) _ o a (by simpa using d)
  rw[b.2] at this; cases this
theorem QlC {v:Int}(hv:(XX (ZP s) c.2.2 c.2.2.length)[i]? =some v)(m:c.2.2[v.toNat]? =some a)(h:K5 c a.2.1=true):false= !QdD c s:=by
  obtain ⟨j,b,rfl,_,d,o⟩:=Hw hv
  have e : b = a := by have : c.2.2[j]? = some a := by simpa using m
                       rw[d] at this; exact cG this
  subst e
  have:QdD c s=true:=bY.2 ⟨b,ai d,by rw[o,h]; rfl⟩
  rw[this]; rfl
def Qwc (c:DSg)(l:List Int):Int:=(l.map fun s=>((QtF c s c.2.2.length).length:Int)).sum
end
theorem W6 (c:Z9)(s:ByteArray)(m:SignsOk c s):FC Tryz.prog 94 [(true,[.dat Qj c.1, .dat Qm c.2.1, .dat Qw c.2.2]),(false,[dS s])] [] 0 (XD 3 .int (XX (ZP s) c.2.2 c.2.2.length)):=by
 have w:=m.2.2.few
 refine Qu Tryz.func94 rfl rfl Tryz.ntmps94 fun B t A o C r p=> ?_
 refine w_ ?_
 refine xbx 0 ?_
 refine w9 ?_
 refine alL 9 fun _=> ?_
 refine w4 ?_
 refine AC.wk (Wk.nilS 1 5 3 .int rfl (Fresh.of rfl) (nlr rfl)) ?_
 refine lp0 c.2.2.length (fun k=>⟨[(1,lf (dS s)),(4,lf (.val (.slice none 0 0))),(5,lR 2),(9,lf (.dat Qw c.2.2)),(10,lI (c.2.2.length:Int)),(11,lI (k:Int))],[(2,some (.arr 3 .int (XX (ZP s) c.2.2 k)))]⟩) ?_ fun k _=> ?_
 exact wp [(2,1)] ⟨(Qh (rfl)),trivial⟩
 have z:=Qf8 (f:=ZP s) (as_:=c.2.2) (k:=k)
 refine w4 ?_
 cases d:(decide ((k:Int) < (c.2.2.length:Int)))
 have h:=aa d
 refine w7 ?_
 refine Qe<|fo_ t ?_
 (congr 1; omega)
 have h:=ab d
 refine w6 ?_
 obtain ⟨ar,b⟩:=gx c.2.2 k
 have u:=m.at_ (ai b)
 refine w2 ?_
 refine lc (xal 3 QG Zu) ?_
 refine w6 ?_
 refine lc (dK (X9 s ar (by omega) (by omega)) JF) ?_
 refine w_ ?_
 cases v:(ZP s ar)
 refine w6 ?_
 refine Qc ?_
 refine l0_ ?_
 exact wp [] ⟨(Qh (by first | exact Hr b ‹_› | exact Qbr b ‹_›)),trivial⟩
 refine w4 ?_
 refine lc (dBs 4 (e:= .int) Yz) ?_
 refine lc (dA 5 Xe) ?_
 refine w_ ?_
 refine Qc ?_
 refine w4 ?_
 refine Qc ?_
 refine l0_ ?_
 exact wp [(2,5)] ⟨(Qh (by first | exact Hr b ‹_› | exact Qbr b ‹_›)),trivial⟩
theorem Qa3 (c:Z9)(s:ByteArray)(B:SignsOk c s):FC Tryz.prog 98 [(true,[.dat Qj c.1, .dat Qm c.2.1, .dat Qw c.2.2]),(false,[dS s])] [] 0 (Q7 (lB (!QdD c s))):=by
 have H:=B.2.2.few
 refine Qu Tryz.func98 rfl rfl Tryz.ntmps98 fun O C N E P G F=> ?_
 refine w_ ?_
 refine xbx 0 ?_
 refine w6 ?_
 refine lc (dK (W6 c s B).frozen QeC) ?_
 refine alL 10 fun _=> ?_
 refine w4 ?_
 refine lpK ((XX (ZP s) c.2.2 c.2.2.length).length) (fun k=>∀j,j < k→∀v,(XX (ZP s) c.2.2 c.2.2.length)[j]? =some v→∀a,c.2.2[v.toNat]? =some a→K5 c a.2.1=false) (fun k=>⟨[(2,lP 0 0),(10,lf (.dat QO (XX (ZP s) c.2.2 c.2.2.length))),(11,lI ((XX (ZP s) c.2.2 c.2.2.length).length:Int)),(12,lI (k:Int))],[bx 0 27 [.dat Qj c.1, .dat Qm c.2.1, .dat Qw c.2.2]]⟩) ((fun j I=>absurd I (bk j))) ?_ fun k _ p=> ?_
 exact wo []
 refine w4 ?_
 cases t:(decide ((k:Int) < ((XX (ZP s) c.2.2 c.2.2.length).length:Int)))
 have u:=aa t
 refine w6 ?_
 refine Qe<|fqB C ?_
 first | exact Qo6 p (by omega)
 have u:=ab t
 refine w5 ?_
 obtain ⟨v,b⟩:=gx (XX (ZP s) c.2.2 c.2.2.length) k
 obtain ⟨R,Q,M,L,J,K⟩:=Hw b
 refine w2 ?_
 refine alI 15 fun _=> ?_
 refine w6 ?_
 obtain ⟨ar,d⟩:=gx c.2.2 ((v).toNat)
 have w:=(B.2.2.arcs _ (ai d)).2.2.1
 have D:ar.2.1 < (c.1.length:Int):=QbF w
 refine w3 ?_
 refine alI 21 fun _=> ?_
 refine w6 ?_
 cases e:(decide (0≤ar.2.1))
 have m:=aa e
 refine w15 ?_
 refine Qc ?_
 refine lK_ ((Y1 p b (fun a A=>by cases (d).symm.trans A; first | exact (Qfr (by omega)).symm | exact (Qe8 (by omega) r).symm.trans ‹_›))) ?_
 exact wo []
 have m:=ab e
 refine w3 ?_
 obtain ⟨sg,z⟩:=gx c.1 ((ar.2.1).toNat)
 have r:=z
 refine w6 ?_
 cases h:(decide (sg.2=1))
 have o:=aa h
 refine w6 ?_
 refine Qc ?_
 refine lK_ ((Y1 p b (fun a A=>by cases (d).symm.trans A; first | exact (Qfr (by omega)).symm | exact (Qe8 (by omega) r).symm.trans ‹_›))) ?_
 exact wo []
 have o:=ab h
 refine w4 ?_
 refine Qe<|fqB C ?_
 exact QlC b d ((Qe8 (by omega) r).symm.trans ‹_›)
theorem QaB (c:Z9)(sig:Int)[∀c,Decidable (SgOk c)]:FC Tryz.prog 396 [(true,[.dat Qj c.1, .dat Qm c.2.1, .dat Qw c.2.2]),(false,[dI sig])] [] 0 (Q7 (lB (decide (SgOk c∧(0≤sig∧sig≤(c.1.length:Int) - 1))))):=by
 refine Qu Tryz.func396 rfl rfl Tryz.ntmps396 fun r e p h t o m=> ?_
 refine acI 1 fun _=> ?_
 refine w_ ?_
 refine xbx 0 ?_
 refine w4 ?_
 refine lc (dK (Zz c) Yy) ?_
 refine w_ ?_
 cases b:(decide (SgOk c))
 have d:=aa b
 refine w9 ?_
 refine Qe<|fqB e ?_
 ·(simp_all; done)
 have d:=ab b
 refine w3 ?_
 refine alL 10 fun _=> ?_
 refine w2 ?_
 refine lgy rfl rfl (dK (XO sig 0 ((c.1.length:Int) - 1)) WY) ?_
 refine w3 ?_
 refine Qe<|fqB e ?_
 ·(simp_all; done)
end Go.Proofs.YtgpdhgadmjfokaaGreat
namespace Go.Proofs.YtgpdhgadmjfokaaGreat
open Go.RowKit
set_option maxRecDepth 100000
set_option maxHeartbeats 4000000
def QvA (s:Int):ByteArray:=(⟨#[UInt8.ofNat (48+s).toNat]⟩:ByteArray)++(⟨#[44]⟩:ByteArray)
def Qwj (c:DSg)(q:Int)(i:Nat):ByteArray:=((QoC c.1 i).filter fun s=>VN c q s).foldl (fun b s=>b++QvA s) (⟨#[]⟩:ByteArray)
section
variable {c:DSg}{as_:List DAr}{a:DAr}{i j k n:Nat}{s q:Int}{z:QB}
theorem QqO (e:c.2.2[k]? =some a)(b:a.1=q)(d:a.2.1=s):true=VN c q s:=(bY.2 ⟨a,ai e,aT ⟨b,d⟩⟩).symm
theorem Qs8 (e:∀j,j < k→∀a,c.2.2[j]? =some a→¬(a.1=q∧a.2.1=s))(f:c.2.2.length≤k):false=VN c q s:=(cI.2 fun a d=>by
 obtain ⟨j,b⟩:=aJ.1 d
 have:=(ae.1 b).1
 simpa using e j (by omega) a b).symm
end
section
variable [∀c,Decidable (SgOk c)][∀s,Decidable (ZF s)]{c:DSg}{x:(Int×Bool)×Int×Bool}
abbrev Qt1 (c:DSg)(x:(Int×Bool)×Int×Bool):ByteArray:=J0 c (Qk c x.1 x.2)
abbrev Qst (c:DSg)(x:(Int×Bool)×Int×Bool):(DSg×List Int)×Bool:=QK c (Qvy c) (Qt1 c x)
def Quy (c:DSg)(x:(Int×Bool)×Int×Bool):Bool:=okB c x.1 x.2&& !QdD c (Qt1 c x)
def Qhg (c:DSg)(x:(Int×Bool)×Int×Bool):DSg×Bool:=
 if Quy c x=true then ((Qst c x).1.1,(Qst c x).2&&decide (QuO (Qst c x).1.1≤QuO c)) else (KC,false)
def Quq (c:DSg)(x:(Int×Bool)×Int×Bool):Prop:=((SgOk c∧(0≤x.1.1∧x.1.1≤(c.1.length:Int) - 1))∧(0≤x.2.1∧x.2.1≤(c.1.length:Int) - 1))∧¬x.1=x.2
instance:Decidable (Quq c x):=inferInstanceAs (Decidable (_∧_))
def Qrg (c:DSg)(x:(Int×Bool)×Int×Bool):Bool:=decide (Quq c x)&&(Qhg c x).2
def QvR (c:DSg)(x:(Int×Bool)×Int×Bool):Int:=if Qrg c x=true then ((Qcy (Qhg c x).1).length:Int) else 0
def QvU (c:DSg)(x:(Int×Bool)×Int×Bool):Int:=if Qrg c x=true then ((Qhg c x).1.2.1.length:Int) else 0
end
theorem Vw (c:Z9)(k:Int)(sig:Int):FC Tryz.prog 286 [(true,[.dat Qj c.1, .dat Qm c.2.1, .dat Qw c.2.2]),(false,[dI k]),(false,[dI sig])] [] 0 (Q7 (lB (VN c k sig))):=by
 refine Qu Tryz.func286 rfl rfl Tryz.ntmps286 fun A p y t B v u=> ?_
 refine acI 1 fun _=> ?_
 refine acI 2 fun _=> ?_
 refine w_ ?_
 refine xbx 0 ?_
 refine w6 ?_
 refine alL 10 fun _=> ?_
 refine w4 ?_
 refine lpK c.2.2.length (fun i=>∀j,j < i→∀a,c.2.2[j]? =some a→¬(a.1=k∧a.2.1=sig)) (fun i=>⟨[(1,lI k),(2,lI sig),(10,lf (.dat Qw c.2.2)),(11,lI (c.2.2.length:Int)),(12,lI (i:Int))],[]⟩) ((fun j w=>absurd w (bk j))) ?_ fun i _ e=> ?_
 exact wo []
 refine w4 ?_
 cases h:(decide ((i:Int) < (c.2.2.length:Int)))
 have l:=aa h
 refine w6 ?_
 refine Qe<|fqB p ?_
 first | exact Qs8 e (by omega)
 have l:=ab h
 refine w5 ?_
 obtain ⟨r,f⟩:=gx c.2.2 i
 refine w2 ?_
 refine lc (xal 1 QG Zu) ?_
 refine w5 ?_
 refine alI 17 fun _=> ?_
 refine w3 ?_
 cases m:(decide (r.1=k))
 have o:=aa m
 refine w12 ?_
 refine Qc ?_
 refine lK_ ((Y1 e f (by first | (exact fun g=>absurd g.1 ‹_›) | (exact fun g=>absurd g.2 ‹_›)))) ?_
 exact wo []
 have o:=ab m
 refine w6 ?_
 cases b:(decide (r.2.1=sig))
 have d:=aa b
 refine w6 ?_
 refine Qc ?_
 refine lK_ ((Y1 e f (by first | (exact fun g=>absurd g.1 ‹_›) | (exact fun g=>absurd g.2 ‹_›)))) ?_
 exact wo []
 have d:=ab b
 refine w4 ?_
 refine Qe<|fqB p ?_
 exact QqO f ‹_› ‹_›
end Go.Proofs.YtgpdhgadmjfokaaGreat
