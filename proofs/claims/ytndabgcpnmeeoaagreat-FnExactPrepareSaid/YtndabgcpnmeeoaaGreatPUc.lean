/- Walks over abstract states: the signs by which a block becomes a partition, both sides. -/
import Derived.Test.YtndabgcpnmeeoaaGreatPUb
set_option linter.unusedSimpArgs false
set_option linter.unusedVariables false
set_option linter.unusedSectionVars false
namespace Go.Proofs.YtndabgcpnmeeoaaGreat
open Go.RowKit
set_option maxRecDepth 100000
set_option maxHeartbeats 4000000
def sg0 (n:Nat)(block:List Int):List UInt8:=(List.range n).map fun k:Nat=>if (k:Int)∈block then (49:UInt8) else 48
def Z1 (block:List Int)(s:List UInt8)(a:DAr):List UInt8:=if¬a.1∈block∧a.2.2.2∈block then s.set a.2.2.2.toNat 43 else if a.1∈block∧¬a.2.2.2∈block then s.set a.2.2.2.toNat 45 else s
def inA (c:DSg)(a:DAr):Bool:=decide (a.2.1 < 0)||decide (((c.1[a.2.1.toNat]?).getD (ByteArray.empty,0)).2=1)
def sAt (s:List UInt8)(x:Int):UInt8:=(s[x.toNat]?).getD 0
def ZH (c:DSg)(block:List Int)(s:List UInt8)(a:DAr):List UInt8:=if (sAt s a.1=43∨sAt s a.1=45)∧inA c a=true∧(a.1∈block↔a.2.2.2∈block) then s.set a.2.2.2.toNat (sAt s a.1) else s
def ZE (c:DSg)(block:List Int)(s:List UInt8):List UInt8:=c.2.2.foldl (ZH c block) s
def Z0 (c:DSg)(block:List Int):List UInt8:=c.2.2.foldl (Z1 block) (sg0 c.2.1.length block)
def Qq0 (c:DSg)(block:List Int):List UInt8:=QZ (ZE c block) c.2.1.length (Z0 c block)
def YG (c:DSg)(block:List Int):ByteArray:=⟨(Qq0 c block).toArray⟩
structure SI (n:Nat) (block:List Int) (s:List UInt8):Prop where
  len:s.length=n
  at_:∀x:Int,0≤x→x < (n:Int)→(x∈block∧(sAt s x=49∨sAt s x=43))∨(¬x∈block∧(sAt s x=48∨sAt s x=45))
def nMk (s:List UInt8):Nat:=(s.filter fun x=>decide (x=43∨x=45)).length
def cMk (s:List UInt8):Nat:=(s.filter fun x=> !decide (x=43∨x=45)).length
section
variable {c:DSg}{as_:List DAr}{a:DAr}{block:List Int}{k i n m:Nat}{s s2 sg:List UInt8}{x y:Int}{z zf zt u v:UInt8}{ch:Bool}
theorem Qvj (l:List UInt8):(⟨l.toArray⟩:ByteArray).toList=l:=by simp[bw]
theorem QxJ {b:ByteArray}{j:Nat}(h:b[j]? =some z):b.toList[j]? =some z:=Qcp (k:=j) (by simpa using h)
theorem Qh5 {α:Type}{l:List α}{j:Nat}{w:α}(h:l[j]? =some w):l.set j w=l:=by
 apply bV
 intro i
 by_cases e:j=i
 ·subst e; rw[aM (ai.1 h).1,h]
 ·rw[aX e]
theorem QsG {n:Int}{l:Int×Bool}(h:U7 n l)(b:¬l.1= -1):0≤l.1:=by
 rcases h with h | h
 ·exact h.1
 ·exact absurd h.1 b
theorem Vi (h:s[x.toNat]? =some z):sAt s x=z:=by unfold sAt; rw[h]; rfl
theorem Qu1 (f:s.length=n)(h0:0≤y)(b:y < (n:Int))(d:0≤x):sAt (s.set y.toNat z) x=if x=y then z else sAt s x:=by
 unfold sAt
 by_cases e:x=y
 ·subst e; rw[aM (by omega),if_pos rfl]; rfl
 ·rw[aX (by omega),if_neg e]
theorem Qvi {l:List Int}{v:Int}(h:(l.any fun y=>decide (v=y))=true):v∈l:=by simpa using h
theorem Qvh {l:List Int}{v:Int}(h:(l.any fun y=>decide (v=y))=false):¬v∈l:=fun g=>by
 rw[cB] at h
 exact h v g (aL rfl)
theorem JH:(sg0 n block).length=n:=by simp[sg0]
theorem QjA (h:(k:Int)∈block)(e:(49:UInt8)=z):sg0 k block++[z]=sg0 (k+1) block:=by subst e; simp[sg0,bJ,h]
theorem Qoi (h:¬(k:Int)∈block)(e:(48:UInt8)=z):sg0 k block++[z]=sg0 (k+1) block:=by subst e; simp[sg0,bJ,h]
theorem Qtg:SI n block (sg0 n block):=⟨JH,fun x d e=>by
 have b:(sg0 n block)[x.toNat]? =some (if x∈block then (49:UInt8) else 48):=by
  unfold sg0
  rw[bf,da (by omega)]
  simp only[dc]
  rw[show ((x.toNat:Nat):Int)=x by omega]
 rw[Vi b]
 by_cases h:x∈block <;> simp[h]⟩
theorem JI (h0:0≤x)(h:(⟨(sg0 n block).toArray⟩:ByteArray)[x.toNat]? =some z):(z=49∧x∈block)∨(z=48∧¬x∈block):=by
 have l:=QxJ h
 have f:(sg0 n block)[x.toNat]? =some z:=by rw[← l,Qvj]
 unfold sg0 at f
 rw[bf] at f
 obtain ⟨j,g,e⟩:=cc.1 f
 have b:=(ai.1 g).1
 rw[List.length_range] at b
 rw[da b] at g
 cases g
 rw[show ((x.toNat:Nat):Int)=x by omega] at e
 by_cases d:x∈block
 ·simp only[d,if_true] at e; exact .inl ⟨e.symm,d⟩
 ·simp only[d,if_false] at e; exact .inr ⟨e.symm,d⟩
theorem SI.set (h:SI n block s)(h0:0≤y)(g:y < (n:Int))(j:(y∈block∧z=43)∨(¬y∈block∧z=45)):SI n block (s.set y.toNat z):=by
 refine ⟨by rw[ap]; exact h.len,fun x f l=> ?_⟩
 rw[Qu1 h.len h0 g f]
 by_cases e:x=y
 ·subst e
  rw[if_pos rfl]
  rcases j with ⟨b,d⟩ | ⟨b,d⟩
  ·exact .inl ⟨b, .inr d⟩
  ·exact .inr ⟨b, .inr d⟩
 ·rw[if_neg e]; exact h.at_ x f l
theorem SI.mark (h:SI n block s)(b:InR n a):SI n block (Z1 block s a):=by
 unfold Z1
 split
 ·rename_i g; exact h.set b.2.1 b.2.2 (.inl ⟨g.2,rfl⟩)
 ·split
  ·rename_i g; exact h.set b.2.1 b.2.2 (.inr ⟨g.2,rfl⟩)
  ·exact h
theorem Qgj:∀{as_:List DAr} {s:List UInt8},(∀a∈as_,InR n a)→SI n block s→SI n block (as_.foldl (Z1 block) s)
 | [],_,_,h=>h
 | a :: as_,s,hr,h=>by
  rw[aW]
  exact Qgj (fun b d=>hr b (ay _ d)) (h.mark (hr a (az ..)))
theorem SI.val (h:SI n block s)(j:InR n a)(d:sAt s a.1=43∨sAt s a.1=45)(f:a.1∈block↔a.2.2.2∈block):(a.2.2.2∈block∧sAt s a.1=43)∨(¬a.2.2.2∈block∧sAt s a.1=45):=by
 rcases h.at_ a.1 j.1.1 j.1.2 with ⟨e,b⟩ | ⟨e,b⟩
 ·refine .inl ⟨f.1 e, ?_⟩
  rcases b with b | b
  ·rw[b] at d; rcases d with d | d <;> exact absurd d (by decide)
  ·exact b
 ·refine .inr ⟨fun g=>e (f.2 g), ?_⟩
  rcases b with b | b
  ·rw[b] at d; rcases d with d | d <;> exact absurd d (by decide)
  ·exact b
theorem QkI (q:UInt8→Bool):∀{s:List UInt8} {j:Nat} {u v:UInt8},s[j]? =some u→q u=false→q v=true→((s.set j v).filter q).length=(s.filter q).length+1
 | [],j,u,v,h,_,_=>by simp at h
 | w :: s,0,u,v,h,h1,h2=>by
  simp at h; subst h
  simp[h1,h2]
 | w :: s,j+1,u,v,h,h1,h2=>by
  have b:=QkI q (s:=s) (j:=j) (by simpa using h) h1 h2
  rw[cG]
  by_cases e:q w=true
  ·rw[List.filter_cons_of_pos e,List.filter_cons_of_pos e,au,au,b]
  ·rw[List.filter_cons_of_neg e,List.filter_cons_of_neg e,b]
theorem QhT (q:UInt8→Bool):∀{s:List UInt8} {j:Nat} {u v:UInt8},s[j]? =some u→q u=true→q v=false→((s.set j v).filter q).length+1=(s.filter q).length
 | [],j,u,v,h,_,_=>by simp at h
 | w :: s,0,u,v,h,h1,h2=>by
  simp at h; subst h
  simp[h1,h2]
 | w :: s,j+1,u,v,h,h1,h2=>by
  have b:=QhT q (s:=s) (j:=j) (by simpa using h) h1 h2
  rw[cG]
  by_cases e:q w=true
  ·rw[List.filter_cons_of_pos e,List.filter_cons_of_pos e,au,au,b]
  ·rw[List.filter_cons_of_neg e,List.filter_cons_of_neg e,b]
theorem QgB (h:SI n block s)(f:InR n a):SI n block (ZH c block s a)∧(ZH c block s a=s∨(nMk s < nMk (ZH c block s a)∧cMk (ZH c block s a) < cMk s)):=by
 unfold ZH
 split
 ·rename_i g
  have q:=h.val f g.1 g.2.2
  refine ⟨h.set f.2.1 f.2.2 q, ?_⟩
  have r:=h.len
  have l:s[a.2.2.2.toNat]? =some (sAt s a.2.2.2):=by
   unfold sAt
   rw[ae (by have:=f.2; omega)]; rfl
  by_cases e:sAt s a.2.2.2=sAt s a.1
  ·exact .inl (by rw[← e]; exact Qh5 l)
  ·right
   have b:¬(sAt s a.2.2.2=43∨sAt s a.2.2.2=45):=fun b=>by
    rcases h.at_ a.2.2.2 f.2.1 f.2.2 with ⟨j,d⟩ | ⟨j,d⟩ <;> rcases q with ⟨o,p⟩ | ⟨o,p⟩
    ·rcases d with d | d
     ·rw[d] at b; rcases b with b | b <;> exact absurd b (by decide)
     ·exact e (d.trans p.symm)
    ·exact o j
    ·exact j o
    ·rcases d with d | d
     ·rw[d] at b; rcases b with b | b <;> exact absurd b (by decide)
     ·exact e (d.trans p.symm)
   constructor
   ·unfold nMk
    rw[QkI _ l (aB b) (aL g.1)]; omega
   ·unfold cMk
    have:=QhT (fun x=> !decide (x=43∨x=45)) l (by simp only[aB b]; rfl) (v:=sAt s a.1) (by simp only[aL g.1]; rfl)
    omega
 ·exact ⟨h, .inl rfl⟩
theorem UP:∀{as_:List DAr} {s:List UInt8},(∀a∈as_,InR n a)→SI n block s→SI n block (as_.foldl (ZH c block) s)∧(as_.foldl (ZH c block) s=s∨nMk s < nMk (as_.foldl (ZH c block) s))
 | [],_,_,h=>⟨h, .inl rfl⟩
 | a :: as_,s,hr,h=>by
  obtain ⟨f,e⟩:=QgB (c:=c) h (hr a (az ..))
  obtain ⟨g,d⟩:=UP (fun b j=>hr b (ay _ j)) f
  refine ⟨g, ?_⟩
  rw[aW]
  rcases e with e | ⟨e,_⟩ <;> rcases d with d | d
  ·exact .inl (d.trans e)
  ·rw[e] at d ⊢; exact .inr d
  ·rw[d]; exact .inr e
  ·exact .inr (by omega)
theorem Qgs (f:List UInt8→List UInt8)(b:∀s,SI n block s→SI n block (f s))(h:SI n block s):∀k,SI n block (QZ f k s)
 | 0=>h
 | k+1=>b _ (Qgs f b h k)
theorem Qcq (b:∀a∈c.2.2,InR c.2.1.length a):SI c.2.1.length block (Z0 c block):=Qgj b Qtg
theorem Qju (b:∀a∈c.2.2,InR c.2.1.length a)(h:SI c.2.1.length block s):SI c.2.1.length block (ZE c block s):=(UP b h).1
theorem QpL (b:∀a∈c.2.2,InR c.2.1.length a):SI c.2.1.length block (Qq0 c block):=Qgs _ (fun _ h=>Qju b h) (Qcq b) _
theorem Qtp (b:∀a∈c.2.2,InR c.2.1.length a):ZE c block (Qq0 c block)=Qq0 c block:=
 QkW (f:=ZE c block) (I:=SI c.2.1.length block) (m:=nMk) (fun _ h=>Qju b h) (fun s h=>by unfold nMk; rw[← h.len]; exact bK ..) (fun s h=>(UP b h).2) (Qcq b)
theorem Qdp {α:Type}{f:α→α}{x:α}(h:f (QZ f k x)=QZ f k x):∀j,QZ f (k+j) x=QZ f k x
 | 0=>rfl
 | j+1=>by show f (QZ f (k+j) x)=_; rw[Qdp h j,h]
theorem QqB {α:Type}{f:α→α}{x:α}(h:f (QZ f k x)=QZ f k x)(b:f (QZ f m x)=QZ f m x):QZ f k x=QZ f m x:=by
 rcases Nat.le_total k m with d | d
 ·have:=Qdp h (m - k); rw[show k+(m - k)=m by omega] at this; exact this.symm
 ·have:=Qdp b (k - m); rw[show m+(k - m)=k by omega] at this; exact this
theorem Qu4 (d:∀a∈c.2.2,InR c.2.1.length a)(h:∃j,sg=QZ (ZE c block) j (Z0 c block))(b:ZE c block sg=sg):sg=Qq0 c block:=by
 obtain ⟨j,rfl⟩:=h
 exact QqB b (Qtp d)
theorem Qdz (f:SgOk c):SignsOk c (YG c block):=by
 have l:∀a∈c.2.2,InR c.2.1.length a:=fun a g=>XC (f.arcs a g)
 have b:=QpL (block:=block) l
 refine ⟨fun x d=> ?_, ?_,f⟩
 ·unfold YG at d
  rw[Qvj] at d
  obtain ⟨j,e⟩:=aN.1 d
  have o:=(ai.1 e).1
  have:=b.at_ (j:Int) (by omega) (by have:=b.len; omega)
  rw[Vi (by simpa using e)] at this
  rcases this with ⟨_,h | h⟩ | ⟨_,h | h⟩
  ·exact .inr (.inr (.inl h))
  ·exact .inr (.inl h)
  ·exact .inl h
  ·exact .inr (.inr (.inr h))
 ·show (Qq0 c block).toArray.size=_
  simpa using b.len
theorem Qk4 (d:∀a∈c.2.2,InR c.2.1.length a):((c.2.2.take k).foldl (Z1 block) (sg0 c.2.1.length block)).length=c.2.1.length:=(Qgj (fun a b=>d a (List.mem_of_mem_take b)) Qtg).len
theorem Qph (e:as_[k]? =some a)(b:¬a.1∈block)(d:a.2.2.2∈block):((as_.take k).foldl (Z1 block) s).set a.2.2.2.toNat 43=(as_.take (k+1)).foldl (Z1 block) s:=by
 rw[QO e,bm]; simp[Z1,b,d]
theorem Qk5 (e:as_[k]? =some a)(b:a.1∈block)(d:¬a.2.2.2∈block):((as_.take k).foldl (Z1 block) s).set a.2.2.2.toNat 45=(as_.take (k+1)).foldl (Z1 block) s:=by
 rw[QO e,bm]; simp[Z1,b,d]
theorem Qcr (b:as_[k]? =some a)(h:a.1∈block↔a.2.2.2∈block):(as_.take k).foldl (Z1 block) s=(as_.take (k+1)).foldl (Z1 block) s:=by
 rw[QO b,bm]
 simp only[aW,ck,Z1]
 by_cases e:a.1∈block
 ·simp[e,h.1 e]
 ·have:¬a.2.2.2∈block:=fun g=>e (h.2 g)
  simp[e,this]
structure PI (c:DSg) (block:List Int) (sg:List UInt8) (i:Nat) (s:List UInt8) (ch:Bool):Prop where
  si:SI c.2.1.length block s
  eq:ZE c block sg=(c.2.2.drop i).foldl (ZH c block) s
  no:ch=false→s=sg
  yes:ch=true→cMk s < cMk sg
  le:cMk s≤cMk sg
theorem PI.start (h:SI c.2.1.length block sg):PI c block sg 0 sg false:=⟨h,rfl,fun _=>rfl,(fun h=>by cases h),aJ _⟩
theorem QoX (e:as_[i]? =some a):as_.drop i=a :: as_.drop (i+1):=by
 obtain ⟨b,d⟩:=ai.1 e
 rw[cI b,d]
theorem PI.skip (h:PI c block sg i s ch)(d:c.2.2[i]? =some a)(b:ZH c block s a=s):PI c block sg (i+1) s ch:=⟨h.si,by rw[h.eq,QoX d,aW,b],h.no,h.yes,h.le⟩
theorem PI.hit (h:PI c block sg i s ch)(w:∀a∈c.2.2,InR c.2.1.length a)(j:c.2.2[i]? =some a)(p:s[a.1.toNat]? =some u)(f:s[a.2.2.2.toNat]? =some v)(t:u=43∨u=45)(hi:inA c a=true)(r:a.1∈block↔a.2.2.2∈block)(d:¬v=u):PI c block sg (i+1) (s.set a.2.2.2.toNat u) true:=by
 have q:=w a (ah j)
 have b:ZH c block s a=s.set a.2.2.2.toNat u:=by
  unfold ZH
  rw[Vi p,if_pos ⟨t,hi,r⟩]
 obtain ⟨l,o⟩:=QgB (c:=c) h.si q
 rw[b] at l o
 have A:¬s.set a.2.2.2.toNat u=s:=fun e=>by
  have g:(s.set a.2.2.2.toNat u)[a.2.2.2.toNat]? =some u:=aM (ai.1 f).1
  rw[e,f] at g
  cases g; exact d rfl
 have B:=(o.resolve_left A).2
 have:=h.le
 exact ⟨l,by rw[h.eq,QoX j,aW,b],(fun h=>by cases h),fun _=>by omega,by omega⟩
theorem PI.end_ (h:PI c block sg i s ch)(hi:c.2.2.length≤i):s=ZE c block sg:=by rw[h.eq,bn hi]; rfl
theorem QvL (h:ch=true){b:Bool}(e:PI c block sg i s b):(if b=true then cMk s+1 else 0) < (if ch=true then cMk sg+1 else 0):=by
 subst h
 have d:=e.yes
 cases b with
 | true=>have:=d rfl; simp; omega
 | false=>simp
theorem KT (b:s[a.1.toNat]? =some u)(h:¬(u=43∨u=45)):ZH c block s a=s:=by unfold ZH; rw[Vi b,if_neg fun g=>h g.1]
theorem QqE (h:¬(sAt s a.1=43∨sAt s a.1=45)):ZH c block s a=s:=by unfold ZH; rw[if_neg fun g=>h g.1]
theorem Qvo (h:¬u=43):decide (u=45)=decide (u=43∨u=45):=by simp[h]
theorem Us (h:¬inA c a=true):ZH c block s a=s:=by unfold ZH; rw[if_neg fun g=>h g.2.1]
theorem Vt (h:¬(a.1∈block↔a.2.2.2∈block)):ZH c block s a=s:=by unfold ZH; rw[if_neg fun g=>h g.2.2]
theorem Qk7 (b:s[a.1.toNat]? =some u)(d:s[a.2.2.2.toNat]? =some u):ZH c block s a=s:=by
 unfold ZH
 split
 ·rw[Vi b]; exact Qh5 d
 ·rfl
theorem QsB (h:a.2.1= -1):inA c a=true:=by unfold inA; rw[h]; rfl
theorem Qpb (h:Yu c a.2.1=true):inA c a=true:=by
 unfold Yu at h
 simp only[aI] at h
 unfold inA
 rw[h.2,Bool.or_true]
theorem QuF (f:U7 (c.1.length:Int) (a.2.1,a.2.2.1))(e:¬a.2.1= -1)(b:Yu c a.2.1=false):¬inA c a=true:=fun h=>by
 unfold inA at h
 unfold Yu at b
 rw[bU] at h
 have d:0≤a.2.1:=QsG f e
 rcases h with h | h
 ·have:=ab h; omega
 ·rw[h,aL d] at b; cases b
theorem Vf {c:DSg}{a:DAr}(h:U7 (c.1.length:Int) (a.2.1,a.2.2.1)):a.2.1 < (c.1.length:Int):=by
 rcases h with h | h
 ·have:=h.2; simp only at this; omega
 ·have:=h.1; simp only at this; omega
theorem Qcs (g:as_[k]? =some a)(e:(zf=49∧a.1∈block)∨(zf=48∧¬a.1∈block))(f:(zt=49∧a.2.2.2∈block)∨(zt=48∧¬a.2.2.2∈block))(b:zf=48)(d:zt=49):((as_.take k).foldl (Z1 block) s).set a.2.2.2.toNat 43=(as_.take (k+1)).foldl (Z1 block) s:=by
 subst b d
 exact Qph g (e.resolve_left fun h=>absurd h.1 (by decide)).2 (f.resolve_right fun h=>absurd h.1 (by decide)).2
theorem Qct (g:as_[k]? =some a)(e:(zf=49∧a.1∈block)∨(zf=48∧¬a.1∈block))(f:(zt=49∧a.2.2.2∈block)∨(zt=48∧¬a.2.2.2∈block))(b:zf=49)(d:zt=48):((as_.take k).foldl (Z1 block) s).set a.2.2.2.toNat 45=(as_.take (k+1)).foldl (Z1 block) s:=by
 subst b d
 exact Qk5 g (e.resolve_right fun h=>absurd h.1 (by decide)).2 (f.resolve_left fun h=>absurd h.1 (by decide)).2
theorem Qcu (g:as_[k]? =some a)(e:(zf=49∧a.1∈block)∨(zf=48∧¬a.1∈block))(f:(zt=49∧a.2.2.2∈block)∨(zt=48∧¬a.2.2.2∈block))(b:zf=48)(d:¬zt=49):(as_.take k).foldl (Z1 block) s=(as_.take (k+1)).foldl (Z1 block) s:=by
 subst b
 have j:=(e.resolve_left fun h=>absurd h.1 (by decide)).2
 have l:=(f.resolve_left fun h=>d h.1).2
 exact Qcr g ⟨fun h=>absurd h j,fun h=>absurd h l⟩
theorem Qcv (g:as_[k]? =some a)(e:(zf=49∧a.1∈block)∨(zf=48∧¬a.1∈block))(f:(zt=49∧a.2.2.2∈block)∨(zt=48∧¬a.2.2.2∈block))(b:zf=49)(d:¬zt=48):(as_.take k).foldl (Z1 block) s=(as_.take (k+1)).foldl (Z1 block) s:=by
 subst b
 have j:=(e.resolve_right fun h=>absurd h.1 (by decide)).2
 have l:=(f.resolve_right fun h=>d h.1).2
 exact Qcr g ⟨fun _=>l,fun _=>j⟩
theorem Qcw (f:as_[k]? =some a)(e:(zf=49∧a.1∈block)∨(zf=48∧¬a.1∈block))(b:¬zf=48)(d:¬zf=49):(as_.take k).foldl (Z1 block) s=(as_.take (k+1)).foldl (Z1 block) s:=by
 rcases e with h | h
 ·exact absurd h.1 d
 ·exact absurd h.1 b
theorem QcG {zf zt:UInt8}(b:(zf=49∧x∈block)∨(zf=48∧¬x∈block))(d:(zt=49∧y∈block)∨(zt=48∧¬y∈block)):zf=zt↔(x∈block↔y∈block):=by
 rcases b with ⟨rfl,b⟩ | ⟨rfl,b⟩ <;> rcases d with ⟨rfl,d⟩ | ⟨rfl,d⟩ <;> simp[b,d]
end
theorem Qbg (c:Zi)(block:List Int)(hs:SgOk c):FC Tryz.prog 576 [(true,[.dat Ql c.1, .dat Qo c.2.1, .dat Qw c.2.2]),(false,[.dat Qz block])] [] 0 (QY (lf (dS (YG c block)))):=by
 have hr:∀a∈c.2.2,InR c.2.1.length a:=fun a ha=>XC (hs.arcs a ha)
 have e2:(⟨#[48,43,49,45]⟩:ByteArray).size=4:=rfl
 have e4:=hs.some_
 have d4:=JH (n:=c.2.1.length) (block:=block)
 have e7:(⟨(sg0 c.2.1.length block).toArray⟩:ByteArray).size=c.2.1.length:=by show ((sg0 c.2.1.length block).toArray).size=_; rw[List.size_toArray,JH]
 refine Qv Tryz.func576 rfl rfl Tryz.ntmps576 fun O_ hO e8 d6 X_ e0 d9=> ?_
 refine w_ ?_
 refine xbx 0 ?_
 refine w3 ?_
 refine lc (dBs 1 (e:= .u8) QaL) ?_
 refine w6 ?_
 refine alL 17 fun _=> ?_
 refine w4 ?_
 refine lp0 c.2.1.length (fun k=>⟨[(1,lf (.dat Qz block)),(2,lP 0 0),(4,lf (dS (⟨#[]⟩:ByteArray))),(5,lR 2),(18,lI (c.2.1.length:Int)),(19,lI (k:Int))],[bx 0 28 [.dat Ql c.1, .dat Qo c.2.1, .dat Qw c.2.2],(2,some (.arr 5 .u8 (sg0 k block)))]⟩) ?_ fun k _=> ?_
 exact wp [(2,1)] ⟨rfl,(Qe (rfl)),trivial⟩
 have e5:=JH (n:=k) (block:=block)
 refine w4 ?_
 cases a9:(decide ((k:Int) < (c.2.1.length:Int)))
 have b0:=aa a9
 refine w3 ?_
 refine XM ?_
 obtain rfl:k=c.2.1.length:=by omega
 refine w2 ?_
 refine lc (Q7 (ys:=sg0 c.2.1.length block) (YA (Qa rfl) rfl) Za Wq Z7 rfl) ?_
 refine w6 ?_
 refine alL 34 fun _=> ?_
 refine w4 ?_
 refine lp0 c.2.2.length (fun k=>⟨[(2,lP 0 0),(4,lf (dS (⟨#[]⟩:ByteArray))),(5,lR 3),(8,lf (dS (⟨(sg0 c.2.1.length block).toArray⟩:ByteArray))),(34,lf (.dat Qw c.2.2)),(35,lI (c.2.2.length:Int)),(36,lI (k:Int))],[bx 0 28 [.dat Ql c.1, .dat Qo c.2.1, .dat Qw c.2.2],(3,some (.arr 5 .u8 ((c.2.2.take k).foldl (Z1 block) (sg0 c.2.1.length block))))]⟩) ?_ fun k _=> ?_
 exact wp [(3,2)] ⟨rfl,(Qe (by simp only[cH,ck])),trivial⟩
 have e3:=Qk4 (block:=block) (k:=k) hr
 refine w4 ?_
 cases b1:(decide ((k:Int) < (c.2.2.length:Int)))
 have b2:=aa b1
 refine w8 ?_
 refine QP (fun m_ V=>∃(sg:List UInt8) (ch:Bool),m_=(if ch=true then cMk sg+1 else 0)∧(∃j,sg=QZ (ZE c block) j (Z0 c block))∧(SI c.2.1.length block sg)∧(ch=false→ZE c block sg=sg)∧V=⟨[(2,lP 0 0),(4,lf (dS (⟨#[]⟩:ByteArray))),(5,lR 4),(8,lf (dS (⟨(sg0 c.2.1.length block).toArray⟩:ByteArray))),(11,lB ch)],[bx 0 28 [.dat Ql c.1, .dat Qo c.2.1, .dat Qw c.2.2],(4,some (.arr 5 .u8 sg))]⟩) ⟨(c.2.2.take k).foldl (Z1 block) (sg0 c.2.1.length block),true,rfl,⟨0,(by rw[QT (by omega)]; rfl)⟩,(by rw[QT (by omega)]; exact Qcq hr),(fun h=>by cases h),rfl⟩ ?_ ?_
 exact wp [(4,3)] ⟨rfl,(Qe (by first | rfl | simp)),trivial⟩
 rintro m_ V ⟨sg,ch,c8,hJ,hS,hF,rfl⟩
 have e6:=hS.len
 refine w4 ?_
 cases e1:(ch)
 refine w5 ?_
 refine lc (Q7 (ys:=sg) (YA (Qa rfl) rfl) Za Wq Z7 rfl) ?_
 refine w2 ?_
 refine Qd<|fqS hO ?_
 (unfold YG; rw[Qu4 hr hJ (hF ‹_›)])
 refine w9 ?_
 refine alL 77 fun _=> ?_
 refine w4 ?_
 refine QP (fun m_ V=>∃(i:Nat) (l:List UInt8) (p:Bool),i≤c.2.2.length∧m_=c.2.2.length - i∧(PI c block sg i l p)∧V=⟨[(2,lP 0 0),(4,lf (dS (⟨#[]⟩:ByteArray))),(5,lR 5),(8,lf (dS (⟨(sg0 c.2.1.length block).toArray⟩:ByteArray))),(11,lB p),(75,lB true),(76,lP 0 2),(77,lf (.dat Qw c.2.2)),(78,lI (c.2.2.length:Int)),(79,lI (i:Int))],[bx 0 28 [.dat Ql c.1, .dat Qo c.2.1, .dat Qw c.2.2],(5,some (.arr 5 .u8 l))]⟩) ⟨0,sg,false,aG _,rfl,(PI.start hS),rfl⟩ ?_ ?_
 exact wo [(5,4)]
 rintro m_ V ⟨i,l,p,d2,d3,r,rfl⟩
 have d5:=r.si.len
 refine w4 ?_
 cases N:(decide ((i:Int) < (c.2.2.length:Int)))
 have W:=aa N
 refine w_ ?_
 refine QiB<|QW ⟨l,p,rfl,(by obtain ⟨j,hj⟩:=hJ; exact ⟨j+1,(r.end_ (by omega)).trans (by rw[hj]; rfl)⟩),r.si,(fun h=>by have h1:=r.no h; have h2:=r.end_ (by omega); rw[h1] at h2 ⊢; exact h2.symm),rfl⟩ (by (rw[c8]; exact QvL ‹_› r)) ?_
 exact wo [(4,5)]
 have W:=ab N
 refine w5 ?_
 obtain ⟨ar,o⟩:=gx c.2.2 i
 have D:=hr _ (ah o)
 obtain ⟨⟨c3,c4⟩,c5,c6⟩:=D
 have B:=(hs.arcs _ (ah o)).2.2.1
 have c9:=hs.some_
 have C:ar.2.1 < (c.1.length:Int):=Vf B
 refine w2 ?_
 refine lc (xal 6 QD QU) ?_
 refine w2 ?_
 refine Qbz (fun V=>∃(mv:Bool),(mv=decide (sAt l ar.1=43∨sAt l ar.1=45))∧V=⟨[(2,lP 0 0),(4,lf (dS (⟨#[]⟩:ByteArray))),(5,lR 5),(8,lf (dS (⟨(sg0 c.2.1.length block).toArray⟩:ByteArray))),(11,lB p),(13,lP 6 0),(14,lB mv),(75,lB true),(76,lP 0 2),(77,lf (.dat Qw c.2.2)),(78,lI (c.2.2.length:Int)),(79,lI (i:Int)),(80,lB true),(81,lf (.elt QD ar 0)),(82,ag [dI ar.1,dI ar.2.1,dB ar.2.2.1,dI ar.2.2.2])],[bx 0 28 [.dat Ql c.1, .dat Qo c.2.1, .dat Qw c.2.2],(5,some (.arr 5 .u8 l)),bx 6 154 [dI ar.1,dI ar.2.1,dB ar.2.2.1,dI ar.2.2.2]]⟩) ?_ fun a8=> ?_
 rintro V ⟨mv,a7,rfl⟩
 cases d0:(mv)
 apply dW (i9 97 _ _ _ _ _ _ _ _ _ (i9 106 _ _ _ _ _ _ _ _ _ (i9 115 _ _ _ _ _ _ _ _ _ (i9 124 _ _ _ _ _ _ _ _ _ [])))) [0,0,0,0,0,0,0,64,64,0,0,0,0,0,8192,8192,0,122880,253952,253952,122880,0,0,0,0,16777216,16777216,0,0,520093696,1056964608,1056964608,520093696,520093696,0,0]
 refine z16 ?_
 refine z16 ?_
 exact y4
 refine w6 ?_
 refine Qb<|QW ⟨i+1,l,p,by omega,rfl,(by exact r.skip o (QqE (aa (a7.symm.trans (by assumption:mv=false))))),rfl⟩ (by omega) ?_
 exact wo []
 cases q:(decide (ar.2.1=(-1)))
 have X:=aa q
 cases E:(Yu c ar.2.1)
 apply dW (i4 97 _ _ _ _ (io 101 (lB false) :: i4 102 _ _ _ _ (io 106 (lB false) :: i9 107 _ _ _ _ _ _ _ _ _ (i9 116 _ _ _ _ _ _ _ _ _ (i8 125 _ _ _ _ _ _ _ _ []))))) [0,0,0,0,0,0,0,64,64,0,0,0,0,0,8192,8192,0,122880,253952,253952,122880,0,0,0,0,16777216,16777216,0,0,520093696,1056964608,1056964608,520093696,520093696,0,0]
 refine z4 ?_
 refine zz (fun _ f=>day rfl (f.k rfl) (QH (q) (V9 (f.v rfl) (Qy rfl) rfl)) rfl) ?_
 refine z4 ?_
 refine zz (fun _ f=>day rfl (f.k rfl) (QH (E) (dK (Yx c ar.2.1 C) WV)) rfl) ?_
 refine z16 ?_
 exact y10
 refine w6 ?_
 refine Qb<|QW ⟨i+1,l,p,by omega,rfl,(by exact r.skip o (Us (QuF B ‹_› ‹_›))),rfl⟩ (by omega) ?_
 exact wo []
 obtain ⟨zf,b3⟩:=gs (⟨(sg0 c.2.1.length block).toArray⟩:ByteArray) ((ar.1).toNat)
 have b:=JI (by omega) b3
 obtain ⟨zt,b4⟩:=gs (⟨(sg0 c.2.1.length block).toArray⟩:ByteArray) ((ar.2.2.2).toNat)
 have d:=JI (by omega) b4
 cases t:(decide (zf=zt))
 have Y:=aa t
 apply dW (i4 97 _ _ _ _ (io 101 (lB false) :: i4 102 _ _ _ _ (io 106 (lB true) :: i9 107 _ _ _ _ _ _ _ _ _ (i2 116 _ _ (io 118 (lB false) :: i9 119 _ _ _ _ _ _ _ _ _ (i5 128 _ _ _ _ _ [])))))) [0,0,0,0,0,0,0,64,64,0,0,0,0,0,8192,8192,0,122880,253952,253952,122880,0,0,0,0,16777216,16777216,0,0,520093696,1056964608,1056964608,520093696,520093696,0,0]
 refine z4 ?_
 refine zz (fun _ f=>day rfl (f.k rfl) (QH (q) (V9 (f.v rfl) (Qy rfl) rfl)) rfl) ?_
 refine z4 ?_
 refine zz (fun _ f=>day rfl (f.k rfl) (QH (E) (dK (Yx c ar.2.1 C) WV)) rfl) ?_
 refine z11 ?_
 refine zz (fun _ f=>day rfl (f.k rfl) (QH (t) (Qu (f.v rfl) (f.v rfl) rfl)) rfl) ?_
 exact y14
 refine w6 ?_
 refine Qb<|QW ⟨i+1,l,p,by omega,rfl,(by exact r.skip o (Vt (fun h=>absurd ((QcG b d).2 h) ‹_›))),rfl⟩ (by omega) ?_
 exact wo []
 have Y:=ab t
 obtain ⟨v,I⟩:=gx l ((ar.2.2.2).toNat)
 have hv:=I
 obtain ⟨u,J⟩:=gx l ((ar.1).toNat)
 have M:=J
 apply dW (i4 97 _ _ _ _ (io 101 (lB false) :: i4 102 _ _ _ _ (io 106 (lB true) :: i9 107 _ _ _ _ _ _ _ _ _ (i2 116 _ _ (io 118 (lB true) :: i5 119 _ _ _ _ _ (io 124 (lf (.ept 5 1 ((ar.2.2.2).toNat) 0)) :: io 125 (lf (.dat .u8 v)) :: i3 126 _ _ _ (io 129 (lf (.ept 5 1 ((ar.1).toNat) 0)) :: io 130 (lf (.dat .u8 u)) :: i2 131 _ _ []))))))) [0,0,0,0,0,0,0,64,64,0,0,0,0,0,8192,8192,0,122880,253952,253952,122880,0,0,0,0,16777216,16777216,0,0,520093696,1056964608,1056964608,520093696,520093696,0,0]
 refine z4 ?_
 refine zz (fun _ f=>day rfl (f.k rfl) (QH (q) (V9 (f.v rfl) (Qy rfl) rfl)) rfl) ?_
 refine z4 ?_
 refine zz (fun _ f=>day rfl (f.k rfl) (QH (E) (dK (Yx c ar.2.1 C) WV)) rfl) ?_
 refine z11 ?_
 refine zz (fun _ f=>day rfl (f.k rfl) (QH (t) (Qu (f.v rfl) (f.v rfl) rfl)) rfl) ?_
 refine z5 ?_
 refine zz (fun _ f=>day rfl (f.k rfl) (QI (e:= .u8) (f.v rfl) (f.en 5 rfl) (f.v rfl) Za QX rfl (by omega) (by first | omega | (simp only[ap]; omega))) rfl)<|zz (fun _ f=>day rfl (f.k rfl) (Q5 (e:= .u8) (f.v rfl) (f.n 5 rfl) I rfl QX rfl rfl) rfl) ?_
 refine z3 ?_
 refine zz (fun _ f=>day rfl (f.k rfl) (QI (e:= .u8) (f.v rfl) (f.en 5 rfl) (f.v rfl) Za QX rfl (by omega) (by first | omega | (simp only[ap]; omega))) rfl)<|zz (fun _ f=>day rfl (f.k rfl) (Q5 (e:= .u8) (f.v rfl) (f.n 5 rfl) J rfl QX rfl rfl) rfl) ?_
 exact y2
 cases O:(!decide (v=u))
 have Z:(v=u):=QK O
 refine w6 ?_
 refine Qb<|QW ⟨i+1,l,p,by omega,rfl,(by exact r.skip o (Qk7 M (hv.trans (congrArg some ‹_›)))),rfl⟩ (by omega) ?_
 exact wo []
 have Z:¬(v=u):=QR O
 refine w_ ?_
 apply dV (i6 133 _ _ _ _ _ _ [io 139 (lf (.ept 5 1 ((ar.1).toNat) 0)),io 140 (lf (.dat .u8 u)),io 141 (lf (.ept 5 1 ((ar.2.2.2).toNat) 0)),⟨none,lf (.val undef),[(5,some (.arr 5 .u8 (l.set ((ar.2.2.2).toNat) u)))]⟩,io 11 _]) [0,1,1,7,15,15,7,7,0,0,0]
 refine z6 ?_
 refine zz (fun _ f=>ac (QI (e:= .u8) (f.v rfl) (f.en 5 rfl) (f.v rfl) Za QX rfl (by omega) (by first | omega | (simp only[ap]; omega))) rfl)<|zz (fun _ f=>ac (Q5 (e:= .u8) (f.v rfl) (f.n 5 rfl) J rfl QX rfl rfl) rfl)<|zz (fun _ f=>ac (QI (e:= .u8) (f.v rfl) (f.en 5 rfl) (f.v rfl) Za QX rfl (by omega) (by first | omega | (simp only[ap]; omega))) rfl)<|zz (fun _ f=>ac (QA (e:= .u8) (z':=u) (f.v rfl) (f.n 5 rfl) I rfl (f.w rfl) rfl QX rfl rfl) rfl) ?_
 exact y1
 refine w4 ?_
 refine Qb<|QW ⟨i+1,(l.set ((ar.2.2.2).toNat) u),true,by omega,rfl,(by exact r.hit hr o M hv (by have h9:=ab (a7.symm.trans (by assumption:mv=true)); rwa [Vi M] at h9) (by first | exact QsB ‹_› | exact Qpb ‹_›) ((QcG b d).1 ‹_›) ‹_›),rfl⟩ (by omega) ?_
 exact wp [] ⟨rfl,(Qe (by first | rfl | simp)),trivial⟩
 have X:=ab q
 obtain ⟨zf,b5⟩:=gs (⟨(sg0 c.2.1.length block).toArray⟩:ByteArray) ((ar.1).toNat)
 have b:=JI (by omega) b5
 obtain ⟨zt,b6⟩:=gs (⟨(sg0 c.2.1.length block).toArray⟩:ByteArray) ((ar.2.2.2).toNat)
 have d:=JI (by omega) b6
 cases A:(decide (zf=zt))
 have a0:=aa A
 apply dW (i4 97 _ _ _ _ (io 101 (lB true) :: i9 102 _ _ _ _ _ _ _ _ _ (i7 111 _ _ _ _ _ _ _ (io 118 (lB false) :: i9 119 _ _ _ _ _ _ _ _ _ (i5 128 _ _ _ _ _ []))))) [0,0,0,0,0,0,0,64,64,0,0,0,0,0,8192,8192,0,122880,253952,253952,122880,0,0,0,0,16777216,16777216,0,0,520093696,1056964608,1056964608,520093696,520093696,0,0]
 refine z4 ?_
 refine zz (fun _ f=>day rfl (f.k rfl) (QH (q) (V9 (f.v rfl) (Qy rfl) rfl)) rfl) ?_
 refine z16 ?_
 refine zz (fun _ f=>day rfl (f.k rfl) (QH (A) (Qu (f.v rfl) (f.v rfl) rfl)) rfl) ?_
 exact y14
 refine w6 ?_
 refine Qb<|QW ⟨i+1,l,p,by omega,rfl,(by exact r.skip o (Vt (fun h=>absurd ((QcG b d).2 h) ‹_›))),rfl⟩ (by omega) ?_
 exact wo []
 have a0:=ab A
 obtain ⟨v,K⟩:=gx l ((ar.2.2.2).toNat)
 have hv:=K
 obtain ⟨u,L⟩:=gx l ((ar.1).toNat)
 have M:=L
 apply dW (i4 97 _ _ _ _ (io 101 (lB true) :: i9 102 _ _ _ _ _ _ _ _ _ (i7 111 _ _ _ _ _ _ _ (io 118 (lB true) :: i5 119 _ _ _ _ _ (io 124 (lf (.ept 5 1 ((ar.2.2.2).toNat) 0)) :: io 125 (lf (.dat .u8 v)) :: i3 126 _ _ _ (io 129 (lf (.ept 5 1 ((ar.1).toNat) 0)) :: io 130 (lf (.dat .u8 u)) :: i2 131 _ _ [])))))) [0,0,0,0,0,0,0,64,64,0,0,0,0,0,8192,8192,0,122880,253952,253952,122880,0,0,0,0,16777216,16777216,0,0,520093696,1056964608,1056964608,520093696,520093696,0,0]
 refine z4 ?_
 refine zz (fun _ f=>day rfl (f.k rfl) (QH (q) (V9 (f.v rfl) (Qy rfl) rfl)) rfl) ?_
 refine z16 ?_
 refine zz (fun _ f=>day rfl (f.k rfl) (QH (A) (Qu (f.v rfl) (f.v rfl) rfl)) rfl) ?_
 refine z5 ?_
 refine zz (fun _ f=>day rfl (f.k rfl) (QI (e:= .u8) (f.v rfl) (f.en 5 rfl) (f.v rfl) Za QX rfl (by omega) (by first | omega | (simp only[ap]; omega))) rfl)<|zz (fun _ f=>day rfl (f.k rfl) (Q5 (e:= .u8) (f.v rfl) (f.n 5 rfl) K rfl QX rfl rfl) rfl) ?_
 refine z3 ?_
 refine zz (fun _ f=>day rfl (f.k rfl) (QI (e:= .u8) (f.v rfl) (f.en 5 rfl) (f.v rfl) Za QX rfl (by omega) (by first | omega | (simp only[ap]; omega))) rfl)<|zz (fun _ f=>day rfl (f.k rfl) (Q5 (e:= .u8) (f.v rfl) (f.n 5 rfl) L rfl QX rfl rfl) rfl) ?_
 exact y2
 cases P:(!decide (v=u))
 have a1:(v=u):=QK P
 refine w6 ?_
 refine Qb<|QW ⟨i+1,l,p,by omega,rfl,(by exact r.skip o (Qk7 M (hv.trans (congrArg some ‹_›)))),rfl⟩ (by omega) ?_
 exact wo []
 have a1:¬(v=u):=QR P
 refine w_ ?_
 apply dV (i6 133 _ _ _ _ _ _ [io 139 (lf (.ept 5 1 ((ar.1).toNat) 0)),io 140 (lf (.dat .u8 u)),io 141 (lf (.ept 5 1 ((ar.2.2.2).toNat) 0)),⟨none,lf (.val undef),[(5,some (.arr 5 .u8 (l.set ((ar.2.2.2).toNat) u)))]⟩,io 11 _]) [0,1,1,7,15,15,7,7,0,0,0]
 refine z6 ?_
 refine zz (fun _ f=>ac (QI (e:= .u8) (f.v rfl) (f.en 5 rfl) (f.v rfl) Za QX rfl (by omega) (by first | omega | (simp only[ap]; omega))) rfl)<|zz (fun _ f=>ac (Q5 (e:= .u8) (f.v rfl) (f.n 5 rfl) L rfl QX rfl rfl) rfl)<|zz (fun _ f=>ac (QI (e:= .u8) (f.v rfl) (f.en 5 rfl) (f.v rfl) Za QX rfl (by omega) (by first | omega | (simp only[ap]; omega))) rfl)<|zz (fun _ f=>ac (QA (e:= .u8) (z':=u) (f.v rfl) (f.n 5 rfl) K rfl (f.w rfl) rfl QX rfl rfl) rfl) ?_
 exact y1
 refine w4 ?_
 refine Qb<|QW ⟨i+1,(l.set ((ar.2.2.2).toNat) u),true,by omega,rfl,(by exact r.hit hr o M hv (by have h9:=ab (a7.symm.trans (by assumption:mv=true)); rwa [Vi M] at h9) (by first | exact QsB ‹_› | exact Qpb ‹_›) ((QcG b d).1 ‹_›) ‹_›),rfl⟩ (by omega) ?_
 exact wp [] ⟨rfl,(Qe (by first | rfl | simp)),trivial⟩
 refine w4 ?_
 refine alI 85 fun _=> ?_
 refine w_ ?_
 obtain ⟨u,c0⟩:=gx l ((ar.1).toNat)
 have M:=c0
 refine w_ ?_
 refine lc (Qu (Qa rfl) (QC 43 rfl) rfl) ?_
 refine w_ ?_
 cases Q:(decide (u=43))
 have a2:=aa Q
 refine w5 ?_
 refine lgy rfl rfl (Qu (Qa rfl) (QC 45 rfl) rfl) ?_
 refine w3 ?_
 refine UE (a8 _ ⟨(decide (u=45)),(by rw[Vi M]; first | exact (aL (.inl ‹_›)).symm | exact Qvo ‹_›),rfl⟩) ?_
 exact wo []
 have a2:=ab Q
 refine w9 ?_
 refine UE (a8 _ ⟨true,(by rw[Vi M]; first | exact (aL (.inl ‹_›)).symm | exact Qvo ‹_›),rfl⟩) ?_
 exact wo []
 have b2:=ab b1
 refine w5 ?_
 obtain ⟨ar,g⟩:=gx c.2.2 k
 have D:=hr _ (ah g)
 obtain ⟨⟨c3,c4⟩,c5,c6⟩:=D
 have B:=(hs.arcs _ (ah g)).2.2.1
 have c9:=hs.some_
 have C:ar.2.1 < (c.1.length:Int):=Vf B
 refine w2 ?_
 refine lc (xal 7 QD QU) ?_
 refine w7 ?_
 refine alI 43 fun _=> ?_
 obtain ⟨zf,b7⟩:=gs (⟨(sg0 c.2.1.length block).toArray⟩:ByteArray) ((ar.1).toNat)
 have b:=JI (by omega) b7
 refine w_ ?_
 refine lc (Qu (Qa rfl) (QC 48 rfl) rfl) ?_
 refine w_ ?_
 cases F:(decide (zf=48))
 have a3:=aa F
 refine w14 ?_
 refine lc (Qu (Qa rfl) (QC 49 rfl) rfl) ?_
 refine w_ ?_
 cases R:(decide (zf=49))
 have a4:=aa R
 refine w14 ?_
 refine Qb ?_
 refine l0_ ?_
 exact wp [] ⟨rfl,(Qe (by first | exact Qcs g b d ‹_› ‹_› | exact Qct g b d ‹_› ‹_› | exact Qcu g b d ‹_› ‹_› | exact Qcv g b d ‹_› ‹_› | exact Qcw g b ‹_› ‹_›)),trivial⟩
 have a4:=ab R
 refine w3 ?_
 obtain ⟨zt,b8⟩:=gs (⟨(sg0 c.2.1.length block).toArray⟩:ByteArray) ((ar.2.2.2).toNat)
 have d:=JI (by omega) b8
 refine w_ ?_
 refine lgy rfl rfl (Qu (Qa rfl) (QC 48 rfl) rfl) ?_
 refine w3 ?_
 cases S:(decide (zt=48))
 have a5:=aa S
 refine w6 ?_
 refine Qb ?_
 refine l0_ ?_
 exact wp [] ⟨rfl,(Qe (by first | exact Qcs g b d ‹_› ‹_› | exact Qct g b d ‹_› ‹_› | exact Qcu g b d ‹_› ‹_› | exact Qcv g b d ‹_› ‹_› | exact Qcw g b ‹_› ‹_›)),trivial⟩
 have a5:=ab S
 refine w5 ?_
 refine alI 72 fun _=> ?_
 refine w_ ?_
 obtain ⟨e9,c1⟩:=gx ((c.2.2.take k).foldl (Z1 block) (sg0 c.2.1.length block)) ((ar.2.2.2).toNat)
 refine lc (QA (e:= .u8) (z':=45) (Qa rfl) rfl c1 rfl (Evl.ev (QC 45 rfl)) rfl QX rfl rfl)<|Qb ?_
 refine w4 ?_
 refine Qb ?_
 refine l0_ ?_
 exact wp [] ⟨rfl,(Qe (by first | exact Qcs g b d ‹_› ‹_› | exact Qct g b d ‹_› ‹_› | exact Qcu g b d ‹_› ‹_› | exact Qcv g b d ‹_› ‹_› | exact Qcw g b ‹_› ‹_›)),trivial⟩
 have a3:=ab F
 refine w3 ?_
 obtain ⟨zt,b9⟩:=gs (⟨(sg0 c.2.1.length block).toArray⟩:ByteArray) ((ar.2.2.2).toNat)
 have d:=JI (by omega) b9
 refine w_ ?_
 refine lgy rfl rfl (Qu (Qa rfl) (QC 49 rfl) rfl) ?_
 refine w3 ?_
 cases T:(decide (zt=49))
 have a6:=aa T
 refine w6 ?_
 refine lc (Qu (Qa rfl) (QC 49 rfl) rfl) ?_
 refine w_ ?_
 have U:(decide (zf=49))=false:=aB fun f=>absurd ((ab (F)).symm.trans f) (by decide)
 have c7:=aa U
 try rw[U]
 refine w14 ?_
 refine Qb ?_
 refine l0_ ?_
 exact wp [] ⟨rfl,(Qe (by first | exact Qcs g b d ‹_› ‹_› | exact Qct g b d ‹_› ‹_› | exact Qcu g b d ‹_› ‹_› | exact Qcv g b d ‹_› ‹_› | exact Qcw g b ‹_› ‹_›)),trivial⟩
 have a6:=ab T
 refine w5 ?_
 refine alI 55 fun _=> ?_
 refine w_ ?_
 obtain ⟨f0,c2⟩:=gx ((c.2.2.take k).foldl (Z1 block) (sg0 c.2.1.length block)) ((ar.2.2.2).toNat)
 refine lc (QA (e:= .u8) (z':=43) (Qa rfl) rfl c2 rfl (Evl.ev (QC 43 rfl)) rfl QX rfl rfl)<|Qb ?_
 refine w4 ?_
 refine Qb ?_
 refine l0_ ?_
 exact wp [] ⟨rfl,(Qe (by first | exact Qcs g b d ‹_› ‹_› | exact Qct g b d ‹_› ‹_› | exact Qcu g b d ‹_› ‹_› | exact Qcv g b d ‹_› ‹_› | exact Qcw g b ‹_› ‹_›)),trivial⟩
 have b0:=ab a9
 refine w15 ?_
 refine lc (dK (Xs block (k:Int)) QfD) ?_
 refine w_ ?_
 cases d1:(block.any (fun y=>decide ((k:Int)=y)))
 refine w5 ?_
 obtain ⟨d7,G⟩:=gs (⟨#[48,43,49,45]⟩:ByteArray) ((0:Int).toNat)
 refine lc (UG (Evl.str rfl) (Qa rfl) rfl Z7 (by omega) G) ?_
 refine lc (dBs 8 (e:= .u8) QaL) ?_
 refine lc (dA 9 Qvk) ?_
 refine w_ ?_
 refine Qb ?_
 refine w4 ?_
 refine Qb ?_
 refine l0_ ?_
 exact wp [(2,9)] ⟨rfl,(Qe (by first | exact QjA (Qvi ‹_›) (cC G) | exact Qoi (Qvh ‹_›) (cC G))),trivial⟩
 refine w7 ?_
 obtain ⟨d8,H⟩:=gs (⟨#[48,43,49,45]⟩:ByteArray) ((2:Int).toNat)
 refine lc (UG (Evl.str rfl) (Qa rfl) rfl Z7 (by omega) H) ?_
 refine lc (dBs 10 (e:= .u8) QaL) ?_
 refine lc (dA 11 Qvk) ?_
 refine w_ ?_
 refine Qb ?_
 refine w4 ?_
 refine Qb ?_
 refine l0_ ?_
 exact wp [(2,11)] ⟨rfl,(Qe (by first | exact QjA (Qvi ‹_›) (cC H) | exact Qoi (Qvh ‹_›) (cC H))),trivial⟩
theorem WX (a:Qfy)(l:List Int):FC Tryz.prog 495 [(true,[dI a.1,dI a.2.1,dB a.2.2.1,dI a.2.2.2]),(false,[.dat Qz l])] [] 0 (QY (lI (if¬a.1∈l∧a.2.2.2∈l then 1 else if a.1∈l∧¬a.2.2.2∈l then 2 else (0:Int)))):=by
 refine Qv Tryz.func495 rfl rfl Tryz.ntmps495 fun t g r o w q p=> ?_
 refine acG 0 0 fun _=> ?_
 refine acG 0 1 fun _=> ?_
 refine acG 0 3 fun _=> ?_
 refine w_ ?_
 refine xbx 0 ?_
 refine w8 ?_
 refine lc (dK (ZZ l a.1) YZ) ?_
 refine w2 ?_
 cases b:(decide (a.1∈l))
 have d:=aa b
 refine w3 ?_
 refine lgy rfl rfl (dK (ZZ l a.2.2.2) YZ) ?_
 refine w3 ?_
 refine cd_ (fun _ _=> ?_) fun _ _=> ?_
 refine w4 ?_
 refine lc (dK (ZZ l a.1) YZ) ?_
 refine w_ ?_
 have h:(decide (a.1∈l))=false:=b
 try rw[h]
 refine w14 ?_
 refine Qd<|fqI g ?_
 ·(simp_all; done)
 refine w3 ?_
 refine Qd<|fqI g ?_
 ·(simp_all; done)
 have d:=ab b
 refine w12 ?_
 refine lc (dK (ZZ l a.1) YZ) ?_
 refine w_ ?_
 have j:(decide (a.1∈l))=true:=b
 try rw[j]
 refine w3 ?_
 refine lgy rfl rfl (dK (ZZ l a.2.2.2) YZ) ?_
 refine w4 ?_
 cases e:(decide (a.2.2.2∈l))
 have f:=aa e
 refine w4 ?_
 refine Qd<|fqI g ?_
 ·(simp_all; done)
 have f:=ab e
 refine w6 ?_
 refine Qd<|fqI g ?_
 ·(simp_all; done)
end Go.Proofs.YtndabgcpnmeeoaaGreat
