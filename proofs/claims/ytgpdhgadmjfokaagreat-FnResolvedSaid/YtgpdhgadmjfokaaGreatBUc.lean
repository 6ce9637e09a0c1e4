/- Walks over abstract states: the signs by which a block becomes a partition, both sides. -/
import Derived.Test.YtgpdhgadmjfokaaGreatBUb
set_option linter.unusedSimpArgs false
set_option linter.unusedVariables false
set_option linter.unusedSectionVars false
namespace Go.Proofs.YtgpdhgadmjfokaaGreat
open Go.RowKit
set_option maxRecDepth 100000
set_option maxHeartbeats 4000000
def sg0 (n:Nat)(block:List Int):List UInt8:=(List.range n).map fun k:Nat=>if (k:Int)∈block then (49:UInt8) else 48
def Yb (block:List Int)(s:List UInt8)(a:DAr):List UInt8:=if¬a.1∈block∧a.2.2.2∈block then s.set a.2.2.2.toNat 43 else if a.1∈block∧¬a.2.2.2∈block then s.set a.2.2.2.toNat 45 else s
def inA (c:DSg)(a:DAr):Bool:=decide (a.2.1 < 0)||decide (((c.1[a.2.1.toNat]?).getD (ByteArray.empty,0)).2=1)
def sAt (s:List UInt8)(x:Int):UInt8:=(s[x.toNat]?).getD 0
def ZP (c:DSg)(block:List Int)(s:List UInt8)(a:DAr):List UInt8:=if (sAt s a.1=43∨sAt s a.1=45)∧inA c a=true∧(a.1∈block↔a.2.2.2∈block) then s.set a.2.2.2.toNat (sAt s a.1) else s
def ZM (c:DSg)(block:List Int)(s:List UInt8):List UInt8:=c.2.2.foldl (ZP c block) s
def Yc (c:DSg)(block:List Int):List UInt8:=c.2.2.foldl (Yb block) (sg0 c.2.1.length block)
def Qqp (c:DSg)(block:List Int):List UInt8:=QT (ZM c block) c.2.1.length (Yc c block)
def YC (c:DSg)(block:List Int):ByteArray:=⟨(Qqp c block).toArray⟩
structure SI (n:Nat) (block:List Int) (s:List UInt8):Prop where
  len:s.length=n
  at_:∀x:Int,0≤x→x < (n:Int)→(x∈block∧(sAt s x=49∨sAt s x=43))∨(¬x∈block∧(sAt s x=48∨sAt s x=45))
def nMk (s:List UInt8):Nat:=(s.filter fun x=>decide (x=43∨x=45)).length
def cMk (s:List UInt8):Nat:=(s.filter fun x=> !decide (x=43∨x=45)).length
section
variable {c:DSg}{as_:List DAr}{a:DAr}{block:List Int}{k i n m:Nat}{s s2 sg:List UInt8}{x y:Int}{z zf zt u v:UInt8}{ch:Bool}
theorem QvK (l:List UInt8):(⟨l.toArray⟩:ByteArray).toList=l:=by simp[bw]
theorem Qzv {b:ByteArray}{j:Nat}(h:b[j]? =some z):b.toList[j]? =some z:=Hx (k:=j) (by simpa using h)
theorem QgY {α:Type}{l:List α}{j:Nat}{w:α}(h:l[j]? =some w):l.set j w=l:=by
 apply bK
 intro i
 by_cases e:j=i
 ·subst e; rw[aZ (ai.1 h).1,h]
 ·rw[bk e]
theorem QqY {n:Int}{l:Int×Bool}(h:Ka n l)(b:¬l.1= -1):0≤l.1:=by
 rcases h with h | h
 ·exact h.1
 ·exact absurd h.1 b
theorem W5 (h:s[x.toNat]? =some z):sAt s x=z:=by unfold sAt; rw[h]; rfl
theorem Qvc (f:s.length=n)(h0:0≤y)(b:y < (n:Int))(d:0≤x):sAt (s.set y.toNat z) x=if x=y then z else sAt s x:=by
 unfold sAt
 by_cases e:x=y
 ·subst e; rw[aZ (by omega),if_pos rfl]; rfl
 ·rw[bk (by omega),if_neg e]
theorem QvN {l:List Int}{v:Int}(h:(l.any fun y=>decide (v=y))=true):v∈l:=by simpa using h
theorem QvW {l:List Int}{v:Int}(h:(l.any fun y=>decide (v=y))=false):¬v∈l:=fun g=>by
 rw[cD] at h
 exact h v g (aQ rfl)
theorem KE:(sg0 n block).length=n:=by simp[sg0]
theorem Qht (h:(k:Int)∈block)(e:(49:UInt8)=z):sg0 k block++[z]=sg0 (k+1) block:=by subst e; simp[sg0,ce,h]
theorem Qll (h:¬(k:Int)∈block)(e:(48:UInt8)=z):sg0 k block++[z]=sg0 (k+1) block:=by subst e; simp[sg0,ce,h]
theorem Qru:SI n block (sg0 n block):=⟨KE,fun x d e=>by
 have b:(sg0 n block)[x.toNat]? =some (if x∈block then (49:UInt8) else 48):=by
  unfold sg0
  rw[bc,di (by omega)]
  simp only[dn]
  rw[show ((x.toNat:Nat):Int)=x by omega]
 rw[W5 b]
 by_cases h:x∈block <;> simp[h]⟩
theorem K1 (h0:0≤x)(h:(⟨(sg0 n block).toArray⟩:ByteArray)[x.toNat]? =some z):(z=49∧x∈block)∨(z=48∧¬x∈block):=by
 have l:=Qzv h
 have f:(sg0 n block)[x.toNat]? =some z:=by rw[← l,QvK]
 unfold sg0 at f
 rw[bc] at f
 obtain ⟨j,g,e⟩:=co.1 f
 have b:=(ai.1 g).1
 rw[List.length_range] at b
 rw[di b] at g
 cases g
 rw[show ((x.toNat:Nat):Int)=x by omega] at e
 by_cases d:x∈block
 ·simp only[d,if_true] at e; exact .inl ⟨e.symm,d⟩
 ·simp only[d,if_false] at e; exact .inr ⟨e.symm,d⟩
theorem SI.set (h:SI n block s)(h0:0≤y)(g:y < (n:Int))(j:(y∈block∧z=43)∨(¬y∈block∧z=45)):SI n block (s.set y.toNat z):=by
 refine ⟨by rw[az]; exact h.len,fun x f l=> ?_⟩
 rw[Qvc h.len h0 g f]
 by_cases e:x=y
 ·subst e
  rw[if_pos rfl]
  rcases j with ⟨b,d⟩ | ⟨b,d⟩
  ·exact .inl ⟨b, .inr d⟩
  ·exact .inr ⟨b, .inr d⟩
 ·rw[if_neg e]; exact h.at_ x f l
theorem SI.mark (h:SI n block s)(b:InR n a):SI n block (Yb block s a):=by
 unfold Yb
 split
 ·rename_i g; exact h.set b.2.1 b.2.2 (.inl ⟨g.2,rfl⟩)
 ·split
  ·rename_i g; exact h.set b.2.1 b.2.2 (.inr ⟨g.2,rfl⟩)
  ·exact h
theorem Qel:∀{as_:List DAr} {s:List UInt8},(∀a∈as_,InR n a)→SI n block s→SI n block (as_.foldl (Yb block) s)
 | [],_,_,h=>h
 | a :: as_,s,hr,h=>by
  rw[aT]
  exact Qel (fun b d=>hr b (aw _ d)) (h.mark (hr a (ax ..)))
theorem SI.val (h:SI n block s)(j:InR n a)(d:sAt s a.1=43∨sAt s a.1=45)(f:a.1∈block↔a.2.2.2∈block):(a.2.2.2∈block∧sAt s a.1=43)∨(¬a.2.2.2∈block∧sAt s a.1=45):=by
 rcases h.at_ a.1 j.1.1 j.1.2 with ⟨e,b⟩ | ⟨e,b⟩
 ·refine .inl ⟨f.1 e, ?_⟩
  rcases b with b | b
  ·rw[b] at d; rcases d with d | d <;> exact absurd d (by decide)
  ·exact b
 ·refine .inr ⟨fun g=>e (f.2 g), ?_⟩
  rcases b with b | b
  ·rw[b] at d; rcases d with d | d <;> exact absurd d (by decide)
  ·exact b
theorem Qi1 (q:UInt8→Bool):∀{s:List UInt8} {j:Nat} {u v:UInt8},s[j]? =some u→q u=false→q v=true→((s.set j v).filter q).length=(s.filter q).length+1
 | [],j,u,v,h,_,_=>by simp at h
 | w :: s,0,u,v,h,h1,h2=>by
  simp at h; subst h
  simp[h1,h2]
 | w :: s,j+1,u,v,h,h1,h2=>by
  have b:=Qi1 q (s:=s) (j:=j) (by simpa using h) h1 h2
  rw[cQ]
  by_cases e:q w=true
  ·rw[List.filter_cons_of_pos e,List.filter_cons_of_pos e,aj,aj,b]
  ·rw[List.filter_cons_of_neg e,List.filter_cons_of_neg e,b]
theorem QgZ (q:UInt8→Bool):∀{s:List UInt8} {j:Nat} {u v:UInt8},s[j]? =some u→q u=true→q v=false→((s.set j v).filter q).length+1=(s.filter q).length
 | [],j,u,v,h,_,_=>by simp at h
 | w :: s,0,u,v,h,h1,h2=>by
  simp at h; subst h
  simp[h1,h2]
 | w :: s,j+1,u,v,h,h1,h2=>by
  have b:=QgZ q (s:=s) (j:=j) (by simpa using h) h1 h2
  rw[cQ]
  by_cases e:q w=true
  ·rw[List.filter_cons_of_pos e,List.filter_cons_of_pos e,aj,aj,b]
  ·rw[List.filter_cons_of_neg e,List.filter_cons_of_neg e,b]
theorem Qe8 (h:SI n block s)(f:InR n a):SI n block (ZP c block s a)∧(ZP c block s a=s∨(nMk s < nMk (ZP c block s a)∧cMk (ZP c block s a) < cMk s)):=by
 unfold ZP
 split
 ·rename_i g
  have q:=h.val f g.1 g.2.2
  refine ⟨h.set f.2.1 f.2.2 q, ?_⟩
  have r:=h.len
  have l:s[a.2.2.2.toNat]? =some (sAt s a.2.2.2):=by
   unfold sAt
   rw[ak (by have:=f.2; omega)]; rfl
  by_cases e:sAt s a.2.2.2=sAt s a.1
  ·exact .inl (by rw[← e]; exact QgY l)
  ·right
   have b:¬(sAt s a.2.2.2=43∨sAt s a.2.2.2=45):=fun b=>by
    rcases h.at_ a.2.2.2 f.2.1 f.2.2 with ⟨j,d⟩ | ⟨j,d⟩ <;> rcases q with ⟨o,p⟩ | ⟨o,p⟩
    ·rcases d with d | d
     ·rw[d] at b; rcases b with b | b <;> exact absurd b (by decide)
     ·exact e (d.trans p.symm)
    ·exact o j
    ·exact j o
    ·rcases d with d | d
     ·rw[d] at b; rcases b with b | b <;> exact absurd b (by decide)
     ·exact e (d.trans p.symm)
   constructor
   ·unfold nMk
    rw[Qi1 _ l (aH b) (aQ g.1)]; omega
   ·unfold cMk
    have:=QgZ (fun x=> !decide (x=43∨x=45)) l (by simp only[aH b]; rfl) (v:=sAt s a.1) (by simp only[aQ g.1]; rfl)
    omega
 ·exact ⟨h, .inl rfl⟩
theorem Ux:∀{as_:List DAr} {s:List UInt8},(∀a∈as_,InR n a)→SI n block s→SI n block (as_.foldl (ZP c block) s)∧(as_.foldl (ZP c block) s=s∨nMk s < nMk (as_.foldl (ZP c block) s))
 | [],_,_,h=>⟨h, .inl rfl⟩
 | a :: as_,s,hr,h=>by
  obtain ⟨f,e⟩:=Qe8 (c:=c) h (hr a (ax ..))
  obtain ⟨g,d⟩:=Ux (fun b j=>hr b (aw _ j)) f
  refine ⟨g, ?_⟩
  rw[aT]
  rcases e with e | ⟨e,_⟩ <;> rcases d with d | d
  ·exact .inl (d.trans e)
  ·rw[e] at d ⊢; exact .inr d
  ·rw[d]; exact .inr e
  ·exact .inr (by omega)
theorem Qfd (f:List UInt8→List UInt8)(b:∀s,SI n block s→SI n block (f s))(h:SI n block s):∀k,SI n block (QT f k s)
 | 0=>h
 | k+1=>b _ (Qfd f b h k)
theorem Qbu (b:∀a∈c.2.2,InR c.2.1.length a):SI c.2.1.length block (Yc c block):=Qel b Qru
theorem Qhl (b:∀a∈c.2.2,InR c.2.1.length a)(h:SI c.2.1.length block s):SI c.2.1.length block (ZM c block s):=(Ux b h).1
theorem Qn9 (b:∀a∈c.2.2,InR c.2.1.length a):SI c.2.1.length block (Qqp c block):=Qfd _ (fun _ h=>Qhl b h) (Qbu b) _
theorem QrE (b:∀a∈c.2.2,InR c.2.1.length a):ZM c block (Qqp c block)=Qqp c block:=
 Qi5 (f:=ZM c block) (I:=SI c.2.1.length block) (m:=nMk) (fun _ h=>Qhl b h) (fun s h=>by unfold nMk; rw[← h.len]; exact bX ..) (fun s h=>(Ux b h).2) (Qbu b)
theorem Qcs {α:Type}{f:α→α}{x:α}(h:f (QT f k x)=QT f k x):∀j,QT f (k+j) x=QT f k x
 | 0=>rfl
 | j+1=>by show f (QT f (k+j) x)=_; rw[Qcs h j,h]
theorem Qp8 {α:Type}{f:α→α}{x:α}(h:f (QT f k x)=QT f k x)(b:f (QT f m x)=QT f m x):QT f k x=QT f m x:=by
 rcases Nat.le_total k m with d | d
 ·have:=Qcs h (m - k); rw[show k+(m - k)=m by omega] at this; exact this.symm
 ·have:=Qcs b (k - m); rw[show m+(k - m)=k by omega] at this; exact this
theorem Qug (d:∀a∈c.2.2,InR c.2.1.length a)(h:∃j,sg=QT (ZM c block) j (Yc c block))(b:ZM c block sg=sg):sg=Qqp c block:=by
 obtain ⟨j,rfl⟩:=h
 exact Qp8 b (QrE d)
theorem Qch (f:SgOk c):SignsOk c (YC c block):=by
 have l:∀a∈c.2.2,InR c.2.1.length a:=fun a g=>XE (f.arcs a g)
 have b:=Qn9 (block:=block) l
 refine ⟨fun x d=> ?_, ?_,f⟩
 ·unfold YC at d
  rw[QvK] at d
  obtain ⟨j,e⟩:=aM.1 d
  have o:=(ai.1 e).1
  have:=b.at_ (j:Int) (by omega) (by have:=b.len; omega)
  rw[W5 (by simpa using e)] at this
  rcases this with ⟨_,h | h⟩ | ⟨_,h | h⟩
  ·exact .inr (.inr (.inl h))
  ·exact .inr (.inl h)
  ·exact .inl h
  ·exact .inr (.inr (.inr h))
 ·show (Qqp c block).toArray.size=_
  simpa using b.len
theorem Qkd (d:∀a∈c.2.2,InR c.2.1.length a):((c.2.2.take k).foldl (Yb block) (sg0 c.2.1.length block)).length=c.2.1.length:=(Qel (fun a b=>d a (List.mem_of_mem_take b)) Qru).len
theorem Qn1 (e:as_[k]? =some a)(b:¬a.1∈block)(d:a.2.2.2∈block):((as_.take k).foldl (Yb block) s).set a.2.2.2.toNat 43=(as_.take (k+1)).foldl (Yb block) s:=by
 rw[QG e,bm]; simp[Yb,b,d]
theorem QiI (e:as_[k]? =some a)(b:a.1∈block)(d:¬a.2.2.2∈block):((as_.take k).foldl (Yb block) s).set a.2.2.2.toNat 45=(as_.take (k+1)).foldl (Yb block) s:=by
 rw[QG e,bm]; simp[Yb,b,d]
theorem Qbh (b:as_[k]? =some a)(h:a.1∈block↔a.2.2.2∈block):(as_.take k).foldl (Yb block) s=(as_.take (k+1)).foldl (Yb block) s:=by
 rw[QG b,bm]
 simp only[aT,cv,Yb]
 by_cases e:a.1∈block
 ·simp[e,h.1 e]
 ·have:¬a.2.2.2∈block:=fun g=>e (h.2 g)
  simp[e,this]
structure PI (c:DSg) (block:List Int) (sg:List UInt8) (i:Nat) (s:List UInt8) (ch:Bool):Prop where
  si:SI c.2.1.length block s
  eq:ZM c block sg=(c.2.2.drop i).foldl (ZP c block) s
  no:ch=false→s=sg
  yes:ch=true→cMk s < cMk sg
  le:cMk s≤cMk sg
theorem PI.start (h:SI c.2.1.length block sg):PI c block sg 0 sg false:=⟨h,rfl,fun _=>rfl,(fun h=>by cases h),aO _⟩
theorem QnY (e:as_[i]? =some a):as_.drop i=a :: as_.drop (i+1):=by
 obtain ⟨b,d⟩:=ai.1 e
 rw[List.drop_eq_getElem_cons b,d]
theorem PI.skip (h:PI c block sg i s ch)(d:c.2.2[i]? =some a)(b:ZP c block s a=s):PI c block sg (i+1) s ch:=⟨h.si,by rw[h.eq,QnY d,aT,b],h.no,h.yes,h.le⟩
theorem PI.hit (h:PI c block sg i s ch)(t:∀a∈c.2.2,InR c.2.1.length a)(j:c.2.2[i]? =some a)(p:s[a.1.toNat]? =some u)(f:s[a.2.2.2.toNat]? =some v)(r:u=43∨u=45)(hi:inA c a=true)(hb:a.1∈block↔a.2.2.2∈block)(d:¬v=u):PI c block sg (i+1) (s.set a.2.2.2.toNat u) true:=by
 have q:=t a (ah j)
 have b:ZP c block s a=s.set a.2.2.2.toNat u:=by
  unfold ZP
  rw[W5 p,if_pos ⟨r,hi,hb⟩]
 obtain ⟨l,o⟩:=Qe8 (c:=c) h.si q
 rw[b] at l o
 have w:¬s.set a.2.2.2.toNat u=s:=fun e=>by
  have g:(s.set a.2.2.2.toNat u)[a.2.2.2.toNat]? =some u:=aZ (ai.1 f).1
  rw[e,f] at g
  cases g; exact d rfl
 have A:=(o.resolve_left w).2
 have:=h.le
 exact ⟨l,by rw[h.eq,QnY j,aT,b],(fun h=>by cases h),fun _=>by omega,by omega⟩
theorem PI.end_ (h:PI c block sg i s ch)(hi:c.2.2.length≤i):s=ZM c block sg:=by rw[h.eq,bJ hi]; rfl
theorem Qv7 (h:ch=true){b:Bool}(e:PI c block sg i s b):(if b=true then cMk s+1 else 0) < (if ch=true then cMk sg+1 else 0):=by
 subst h
 have d:=e.yes
 cases b with
 | true=>have:=d rfl; simp; omega
 | false=>simp
theorem Kk (b:s[a.1.toNat]? =some u)(h:¬(u=43∨u=45)):ZP c block s a=s:=by unfold ZP; rw[W5 b,if_neg fun g=>h g.1]
theorem Qp2 (h:¬(sAt s a.1=43∨sAt s a.1=45)):ZP c block s a=s:=by unfold ZP; rw[if_neg fun g=>h g.1]
theorem QvX (h:¬u=43):decide (u=45)=decide (u=43∨u=45):=by simp[h]
theorem VU (h:¬inA c a=true):ZP c block s a=s:=by unfold ZP; rw[if_neg fun g=>h g.2.1]
theorem Vc (h:¬(a.1∈block↔a.2.2.2∈block)):ZP c block s a=s:=by unfold ZP; rw[if_neg fun g=>h g.2.2]
theorem QjJ (b:s[a.1.toNat]? =some u)(d:s[a.2.2.2.toNat]? =some u):ZP c block s a=s:=by
 unfold ZP
 split
 ·rw[W5 b]; exact QgY d
 ·rfl
theorem QrV (h:a.2.1= -1):inA c a=true:=by unfold inA; rw[h]; rfl
theorem Qn0 (h:X8 c a.2.1=true):inA c a=true:=by
 unfold X8 at h
 simp only[aL] at h
 unfold inA
 rw[h.2,Bool.or_true]
theorem QuU (f:Ka (c.1.length:Int) (a.2.1,a.2.2.1))(e:¬a.2.1= -1)(b:X8 c a.2.1=false):¬inA c a=true:=fun h=>by
 unfold inA at h
 unfold X8 at b
 rw[bP] at h
 have d:0≤a.2.1:=QqY f e
 rcases h with h | h
 ·have:=ab h; omega
 ·rw[h,aQ d] at b; cases b
theorem Ut {c:DSg}{a:DAr}(h:Ka (c.1.length:Int) (a.2.1,a.2.2.1)):a.2.1 < (c.1.length:Int):=by
 rcases h with h | h
 ·have:=h.2; simp only at this; omega
 ·have:=h.1; simp only at this; omega
theorem Qbj (g:as_[k]? =some a)(e:(zf=49∧a.1∈block)∨(zf=48∧¬a.1∈block))(f:(zt=49∧a.2.2.2∈block)∨(zt=48∧¬a.2.2.2∈block))(b:zf=48)(d:zt=49):((as_.take k).foldl (Yb block) s).set a.2.2.2.toNat 43=(as_.take (k+1)).foldl (Yb block) s:=by
 subst b d
 exact Qn1 g (e.resolve_left fun h=>absurd h.1 (by decide)).2 (f.resolve_right fun h=>absurd h.1 (by decide)).2
theorem QbR (g:as_[k]? =some a)(e:(zf=49∧a.1∈block)∨(zf=48∧¬a.1∈block))(f:(zt=49∧a.2.2.2∈block)∨(zt=48∧¬a.2.2.2∈block))(b:zf=49)(d:zt=48):((as_.take k).foldl (Yb block) s).set a.2.2.2.toNat 45=(as_.take (k+1)).foldl (Yb block) s:=by
 subst b d
 exact QiI g (e.resolve_right fun h=>absurd h.1 (by decide)).2 (f.resolve_left fun h=>absurd h.1 (by decide)).2
theorem Qbl (g:as_[k]? =some a)(e:(zf=49∧a.1∈block)∨(zf=48∧¬a.1∈block))(f:(zt=49∧a.2.2.2∈block)∨(zt=48∧¬a.2.2.2∈block))(b:zf=48)(d:¬zt=49):(as_.take k).foldl (Yb block) s=(as_.take (k+1)).foldl (Yb block) s:=by
 subst b
 have j:=(e.resolve_left fun h=>absurd h.1 (by decide)).2
 have l:=(f.resolve_left fun h=>d h.1).2
 exact Qbh g ⟨fun h=>absurd h j,fun h=>absurd h l⟩
theorem QbA (g:as_[k]? =some a)(e:(zf=49∧a.1∈block)∨(zf=48∧¬a.1∈block))(f:(zt=49∧a.2.2.2∈block)∨(zt=48∧¬a.2.2.2∈block))(b:zf=49)(d:¬zt=48):(as_.take k).foldl (Yb block) s=(as_.take (k+1)).foldl (Yb block) s:=by
 subst b
 have j:=(e.resolve_right fun h=>absurd h.1 (by decide)).2
 have l:=(f.resolve_right fun h=>d h.1).2
 exact Qbh g ⟨fun _=>l,fun _=>j⟩
theorem Qbn (f:as_[k]? =some a)(e:(zf=49∧a.1∈block)∨(zf=48∧¬a.1∈block))(b:¬zf=48)(d:¬zf=49):(as_.take k).foldl (Yb block) s=(as_.take (k+1)).foldl (Yb block) s:=by
 rcases e with h | h
 ·exact absurd h.1 d
 ·exact absurd h.1 b
theorem QbI {zf zt:UInt8}(b:(zf=49∧x∈block)∨(zf=48∧¬x∈block))(d:(zt=49∧y∈block)∨(zt=48∧¬y∈block)):zf=zt↔(x∈block↔y∈block):=by
 rcases b with ⟨rfl,b⟩ | ⟨rfl,b⟩ <;> rcases d with ⟨rfl,d⟩ | ⟨rfl,d⟩ <;> simp[b,d]
end
theorem Qas (c:ZB)(block:List Int)(hs:SgOk c):FC Tryz.prog 461 [(true,[.dat Ql c.1, .dat Qm c.2.1, .dat Qu c.2.2]),(false,[.dat QA block])] [] 0 (Q7 (lf (dS (YC c block)))):=by
 have hr:∀a∈c.2.2,InR c.2.1.length a:=fun a ha=>XE (hs.arcs a ha)
 have e2:(⟨#[48,43,49,45]⟩:ByteArray).size=4:=rfl
 have e4:=hs.some_
 have d4:=KE (n:=c.2.1.length) (block:=block)
 have e7:(⟨(sg0 c.2.1.length block).toArray⟩:ByteArray).size=c.2.1.length:=by show ((sg0 c.2.1.length block).toArray).size=_; rw[List.size_toArray,KE]
 refine Qt Tryz.func461 rfl rfl Tryz.ntmps461 fun O_ hO e8 d6 X_ e0 d9=> ?_
 refine w_ ?_
 refine xbx 0 ?_
 refine w3 ?_
 refine lc (dBs 1 (e:= .u8) Qfc) ?_
 refine w6 ?_
 refine alL 17 fun _=> ?_
 refine w4 ?_
 refine lp0 c.2.1.length (fun k=>⟨[(1,lf (.dat QA block)),(2,lP 0 0),(4,lf (dS (⟨#[]⟩:ByteArray))),(5,lR 2),(18,lI (c.2.1.length:Int)),(19,lI (k:Int))],[bx 0 27 [.dat Ql c.1, .dat Qm c.2.1, .dat Qu c.2.2],(2,some (.arr 5 .u8 (sg0 k block)))]⟩) ?_ fun k _=> ?_
 exact wp [(2,1)] ⟨rfl,(Qe (rfl)),trivial⟩
 have e5:=KE (n:=k) (block:=block)
 refine w4 ?_
 cases a9:(decide ((k:Int) < (c.2.1.length:Int)))
 have b0:=aa a9
 refine w3 ?_
 refine Yo ?_
 obtain rfl:k=c.2.1.length:=by omega
 refine w2 ?_
 refine lc (Zm (ys:=sg0 c.2.1.length block) (YM (Qa rfl) rfl) ZD Vl Zf rfl) ?_
 refine w6 ?_
 refine alL 34 fun _=> ?_
 refine w4 ?_
 refine lp0 c.2.2.length (fun k=>⟨[(2,lP 0 0),(4,lf (dS (⟨#[]⟩:ByteArray))),(5,lR 3),(8,lf (dS (⟨(sg0 c.2.1.length block).toArray⟩:ByteArray))),(34,lf (.dat Qu c.2.2)),(35,lI (c.2.2.length:Int)),(36,lI (k:Int))],[bx 0 27 [.dat Ql c.1, .dat Qm c.2.1, .dat Qu c.2.2],(3,some (.arr 5 .u8 ((c.2.2.take k).foldl (Yb block) (sg0 c.2.1.length block))))]⟩) ?_ fun k _=> ?_
 exact wp [(3,2)] ⟨rfl,(Qe (by simp only[cU,cv])),trivial⟩
 have e3:=Qkd (block:=block) (k:=k) hr
 refine w4 ?_
 cases b1:(decide ((k:Int) < (c.2.2.length:Int)))
 have b2:=aa b1
 refine w8 ?_
 refine QL (fun m_ V=>∃(sg:List UInt8) (ch:Bool),m_=(if ch=true then cMk sg+1 else 0)∧(∃j,sg=QT (ZM c block) j (Yc c block))∧(SI c.2.1.length block sg)∧(ch=false→ZM c block sg=sg)∧V=⟨[(2,lP 0 0),(4,lf (dS (⟨#[]⟩:ByteArray))),(5,lR 4),(8,lf (dS (⟨(sg0 c.2.1.length block).toArray⟩:ByteArray))),(11,lB ch)],[bx 0 27 [.dat Ql c.1, .dat Qm c.2.1, .dat Qu c.2.2],(4,some (.arr 5 .u8 sg))]⟩) ⟨(c.2.2.take k).foldl (Yb block) (sg0 c.2.1.length block),true,rfl,⟨0,(by rw[QH (by omega)]; rfl)⟩,(by rw[QH (by omega)]; exact Qbu hr),(fun h=>by cases h),rfl⟩ ?_ ?_
 exact wp [(4,3)] ⟨rfl,(Qe (by first | rfl | simp)),trivial⟩
 rintro m_ V ⟨sg,ch,c8,hJ,hS,hF,rfl⟩
 have e6:=hS.len
 refine w4 ?_
 cases e1:(ch)
 refine w5 ?_
 refine lc (Zm (ys:=sg) (YM (Qa rfl) rfl) ZD Vl Zf rfl) ?_
 refine w2 ?_
 refine Qd<|fqS hO ?_
 (unfold YC; rw[Qug hr hJ (hF ‹_›)])
 refine w9 ?_
 refine alL 77 fun _=> ?_
 refine w4 ?_
 refine QL (fun m_ V=>∃(i:Nat) (l:List UInt8) (p:Bool),i≤c.2.2.length∧m_=c.2.2.length - i∧(PI c block sg i l p)∧V=⟨[(2,lP 0 0),(4,lf (dS (⟨#[]⟩:ByteArray))),(5,lR 5),(8,lf (dS (⟨(sg0 c.2.1.length block).toArray⟩:ByteArray))),(11,lB p),(75,lB true),(76,lP 0 2),(77,lf (.dat Qu c.2.2)),(78,lI (c.2.2.length:Int)),(79,lI (i:Int))],[bx 0 27 [.dat Ql c.1, .dat Qm c.2.1, .dat Qu c.2.2],(5,some (.arr 5 .u8 l))]⟩) ⟨0,sg,false,aS _,rfl,(PI.start hS),rfl⟩ ?_ ?_
 exact wo [(5,4)]
 rintro m_ V ⟨i,l,p,d2,d3,r,rfl⟩
 have d5:=r.si.len
 refine w4 ?_
 cases N:(decide ((i:Int) < (c.2.2.length:Int)))
 have W:=aa N
 refine w_ ?_
 refine Qiy<|Q2 ⟨l,p,rfl,(by obtain ⟨j,hj⟩:=hJ; exact ⟨j+1,(r.end_ (by omega)).trans (by rw[hj]; rfl)⟩),r.si,(fun h=>by have h1:=r.no h; have h2:=r.end_ (by omega); rw[h1] at h2 ⊢; exact h2.symm),rfl⟩ (by (rw[c8]; exact Qv7 ‹_› r)) ?_
 exact wo [(4,5)]
 have W:=ab N
 refine w5 ?_
 obtain ⟨ar,o⟩:=gx c.2.2 i
 have D:=hr _ (ah o)
 obtain ⟨⟨c3,c4⟩,c5,c6⟩:=D
 have B:=(hs.arcs _ (ah o)).2.2.1
 have c9:=hs.some_
 have C:ar.2.1 < (c.1.length:Int):=Ut B
 refine w2 ?_
 refine lc (xal 6 Qs Zg) ?_
 refine w2 ?_
 refine Ud (fun V=>∃(mv:Bool),(mv=decide (sAt l ar.1=43∨sAt l ar.1=45))∧V=⟨[(2,lP 0 0),(4,lf (dS (⟨#[]⟩:ByteArray))),(5,lR 5),(8,lf (dS (⟨(sg0 c.2.1.length block).toArray⟩:ByteArray))),(11,lB p),(13,lP 6 0),(14,lB mv),(75,lB true),(76,lP 0 2),(77,lf (.dat Qu c.2.2)),(78,lI (c.2.2.length:Int)),(79,lI (i:Int)),(80,lB true),(81,lf (.elt Qs ar 0)),(82,ag [dI ar.1,dI ar.2.1,dB ar.2.2.1,dI ar.2.2.2])],[bx 0 27 [.dat Ql c.1, .dat Qm c.2.1, .dat Qu c.2.2],(5,some (.arr 5 .u8 l)),bx 6 46 [dI ar.1,dI ar.2.1,dB ar.2.2.1,dI ar.2.2.2]]⟩) ?_ fun a8=> ?_
 rintro V ⟨mv,a7,rfl⟩
 cases d0:(mv)
 apply dW (i9 97 _ _ _ _ _ _ _ _ _ (i9 106 _ _ _ _ _ _ _ _ _ (i9 115 _ _ _ _ _ _ _ _ _ (i9 124 _ _ _ _ _ _ _ _ _ [])))) [0,0,0,0,0,0,0,64,64,0,0,0,0,0,8192,8192,0,122880,253952,253952,122880,0,0,0,0,16777216,16777216,0,0,520093696,1056964608,1056964608,520093696,520093696,0,0]
 refine z16 ?_
 refine z16 ?_
 exact y4
 refine w6 ?_
 refine Qb<|Q2 ⟨i+1,l,p,by omega,rfl,(by exact r.skip o (Qp2 (aa (a7.symm.trans (by assumption:mv=false))))),rfl⟩ (by omega) ?_
 exact wo []
 cases q:(decide (ar.2.1=(-1)))
 have X:=aa q
 cases E:(X8 c ar.2.1)
 apply dW (i4 97 _ _ _ _ (io 101 (lB false) :: i4 102 _ _ _ _ (io 106 (lB false) :: i9 107 _ _ _ _ _ _ _ _ _ (i9 116 _ _ _ _ _ _ _ _ _ (i8 125 _ _ _ _ _ _ _ _ []))))) [0,0,0,0,0,0,0,64,64,0,0,0,0,0,8192,8192,0,122880,253952,253952,122880,0,0,0,0,16777216,16777216,0,0,520093696,1056964608,1056964608,520093696,520093696,0,0]
 refine z4 ?_
 refine zz (fun _ f=>day rfl (f.k rfl) (QC (q) (Yi (f.v rfl) (Qp rfl) rfl)) rfl) ?_
 refine z4 ?_
 refine zz (fun _ f=>day rfl (f.k rfl) (QC (E) (dK (XW c ar.2.1 C) Hf)) rfl) ?_
 refine z16 ?_
 exact y10
 refine w6 ?_
 refine Qb<|Q2 ⟨i+1,l,p,by omega,rfl,(by exact r.skip o (VU (QuU B ‹_› ‹_›))),rfl⟩ (by omega) ?_
 exact wo []
 obtain ⟨zf,b3⟩:=gs (⟨(sg0 c.2.1.length block).toArray⟩:ByteArray) ((ar.1).toNat)
 have b:=K1 (by omega) b3
 obtain ⟨zt,b4⟩:=gs (⟨(sg0 c.2.1.length block).toArray⟩:ByteArray) ((ar.2.2.2).toNat)
 have d:=K1 (by omega) b4
 cases t:(decide (zf=zt))
 have Y:=aa t
 apply dW (i4 97 _ _ _ _ (io 101 (lB false) :: i4 102 _ _ _ _ (io 106 (lB true) :: i9 107 _ _ _ _ _ _ _ _ _ (i2 116 _ _ (io 118 (lB false) :: i9 119 _ _ _ _ _ _ _ _ _ (i5 128 _ _ _ _ _ [])))))) [0,0,0,0,0,0,0,64,64,0,0,0,0,0,8192,8192,0,122880,253952,253952,122880,0,0,0,0,16777216,16777216,0,0,520093696,1056964608,1056964608,520093696,520093696,0,0]
 refine z4 ?_
 refine zz (fun _ f=>day rfl (f.k rfl) (QC (q) (Yi (f.v rfl) (Qp rfl) rfl)) rfl) ?_
 refine z4 ?_
 refine zz (fun _ f=>day rfl (f.k rfl) (QC (E) (dK (XW c ar.2.1 C) Hf)) rfl) ?_
 refine z11 ?_
 refine zz (fun _ f=>day rfl (f.k rfl) (QC (t) (Qr (f.v rfl) (f.v rfl) rfl)) rfl) ?_
 exact y14
 refine w6 ?_
 refine Qb<|Q2 ⟨i+1,l,p,by omega,rfl,(by exact r.skip o (Vc (fun h=>absurd ((QbI b d).2 h) ‹_›))),rfl⟩ (by omega) ?_
 exact wo []
 have Y:=ab t
 obtain ⟨v,I⟩:=gx l ((ar.2.2.2).toNat)
 have hv:=I
 obtain ⟨u,J⟩:=gx l ((ar.1).toNat)
 have M:=J
 apply dW (i4 97 _ _ _ _ (io 101 (lB false) :: i4 102 _ _ _ _ (io 106 (lB true) :: i9 107 _ _ _ _ _ _ _ _ _ (i2 116 _ _ (io 118 (lB true) :: i5 119 _ _ _ _ _ (io 124 (lf (.ept 5 1 ((ar.2.2.2).toNat) 0)) :: io 125 (lf (.dat .u8 v)) :: i3 126 _ _ _ (io 129 (lf (.ept 5 1 ((ar.1).toNat) 0)) :: io 130 (lf (.dat .u8 u)) :: i2 131 _ _ []))))))) [0,0,0,0,0,0,0,64,64,0,0,0,0,0,8192,8192,0,122880,253952,253952,122880,0,0,0,0,16777216,16777216,0,0,520093696,1056964608,1056964608,520093696,520093696,0,0]
 refine z4 ?_
 refine zz (fun _ f=>day rfl (f.k rfl) (QC (q) (Yi (f.v rfl) (Qp rfl) rfl)) rfl) ?_
 refine z4 ?_
 refine zz (fun _ f=>day rfl (f.k rfl) (QC (E) (dK (XW c ar.2.1 C) Hf)) rfl) ?_
 refine z11 ?_
 refine zz (fun _ f=>day rfl (f.k rfl) (QC (t) (Qr (f.v rfl) (f.v rfl) rfl)) rfl) ?_
 refine z5 ?_
 refine zz (fun _ f=>day rfl (f.k rfl) (QE (e:= .u8) (f.v rfl) (f.en 5 rfl) (f.v rfl) ZD Zd rfl (by omega) (by first | omega | (simp only[az]; omega))) rfl)<|zz (fun _ f=>day rfl (f.k rfl) (Q3 (e:= .u8) (f.v rfl) (f.n 5 rfl) I rfl Zd rfl rfl) rfl) ?_
 refine z3 ?_
 refine zz (fun _ f=>day rfl (f.k rfl) (QE (e:= .u8) (f.v rfl) (f.en 5 rfl) (f.v rfl) ZD Zd rfl (by omega) (by first | omega | (simp only[az]; omega))) rfl)<|zz (fun _ f=>day rfl (f.k rfl) (Q3 (e:= .u8) (f.v rfl) (f.n 5 rfl) J rfl Zd rfl rfl) rfl) ?_
 exact y2
 cases O:(!decide (v=u))
 have Z:(v=u):=QM O
 refine w6 ?_
 refine Qb<|Q2 ⟨i+1,l,p,by omega,rfl,(by exact r.skip o (QjJ M (hv.trans (congrArg some ‹_›)))),rfl⟩ (by omega) ?_
 exact wo []
 have Z:¬(v=u):=QS O
 refine w_ ?_
 apply dV (i6 133 _ _ _ _ _ _ [io 139 (lf (.ept 5 1 ((ar.1).toNat) 0)),io 140 (lf (.dat .u8 u)),io 141 (lf (.ept 5 1 ((ar.2.2.2).toNat) 0)),⟨none,lf (.val undef),[(5,some (.arr 5 .u8 (l.set ((ar.2.2.2).toNat) u)))]⟩,io 11 _]) [0,1,1,7,15,15,7,7,0,0,0]
 refine z6 ?_
 refine zz (fun _ f=>ac (QE (e:= .u8) (f.v rfl) (f.en 5 rfl) (f.v rfl) ZD Zd rfl (by omega) (by first | omega | (simp only[az]; omega))) rfl)<|zz (fun _ f=>ac (Q3 (e:= .u8) (f.v rfl) (f.n 5 rfl) J rfl Zd rfl rfl) rfl)<|zz (fun _ f=>ac (QE (e:= .u8) (f.v rfl) (f.en 5 rfl) (f.v rfl) ZD Zd rfl (by omega) (by first | omega | (simp only[az]; omega))) rfl)<|zz (fun _ f=>ac (QB (e:= .u8) (z':=u) (f.v rfl) (f.n 5 rfl) I rfl (f.w rfl) rfl Zd rfl rfl) rfl) ?_
 exact y1
 refine w4 ?_
 refine Qb<|Q2 ⟨i+1,(l.set ((ar.2.2.2).toNat) u),true,by omega,rfl,(by exact r.hit hr o M hv (by have h9:=ab (a7.symm.trans (by assumption:mv=true)); rwa [W5 M] at h9) (by first | exact QrV ‹_› | exact Qn0 ‹_›) ((QbI b d).1 ‹_›) ‹_›),rfl⟩ (by omega) ?_
 exact wp [] ⟨rfl,(Qe (by first | rfl | simp)),trivial⟩
 have X:=ab q
 obtain ⟨zf,b5⟩:=gs (⟨(sg0 c.2.1.length block).toArray⟩:ByteArray) ((ar.1).toNat)
 have b:=K1 (by omega) b5
 obtain ⟨zt,b6⟩:=gs (⟨(sg0 c.2.1.length block).toArray⟩:ByteArray) ((ar.2.2.2).toNat)
 have d:=K1 (by omega) b6
 cases A:(decide (zf=zt))
 have a0:=aa A
 apply dW (i4 97 _ _ _ _ (io 101 (lB true) :: i9 102 _ _ _ _ _ _ _ _ _ (i7 111 _ _ _ _ _ _ _ (io 118 (lB false) :: i9 119 _ _ _ _ _ _ _ _ _ (i5 128 _ _ _ _ _ []))))) [0,0,0,0,0,0,0,64,64,0,0,0,0,0,8192,8192,0,122880,253952,253952,122880,0,0,0,0,16777216,16777216,0,0,520093696,1056964608,1056964608,520093696,520093696,0,0]
 refine z4 ?_
 refine zz (fun _ f=>day rfl (f.k rfl) (QC (q) (Yi (f.v rfl) (Qp rfl) rfl)) rfl) ?_
 refine z16 ?_
 refine zz (fun _ f=>day rfl (f.k rfl) (QC (A) (Qr (f.v rfl) (f.v rfl) rfl)) rfl) ?_
 exact y14
 refine w6 ?_
 refine Qb<|Q2 ⟨i+1,l,p,by omega,rfl,(by exact r.skip o (Vc (fun h=>absurd ((QbI b d).2 h) ‹_›))),rfl⟩ (by omega) ?_
 exact wo []
 have a0:=ab A
 obtain ⟨v,K⟩:=gx l ((ar.2.2.2).toNat)
 have hv:=K
 obtain ⟨u,L⟩:=gx l ((ar.1).toNat)
 have M:=L
 apply dW (i4 97 _ _ _ _ (io 101 (lB true) :: i9 102 _ _ _ _ _ _ _ _ _ (i7 111 _ _ _ _ _ _ _ (io 118 (lB true) :: i5 119 _ _ _ _ _ (io 124 (lf (.ept 5 1 ((ar.2.2.2).toNat) 0)) :: io 125 (lf (.dat .u8 v)) :: i3 126 _ _ _ (io 129 (lf (.ept 5 1 ((ar.1).toNat) 0)) :: io 130 (lf (.dat .u8 u)) :: i2 131 _ _ [])))))) [0,0,0,0,0,0,0,64,64,0,0,0,0,0,8192,8192,0,122880,253952,253952,122880,0,0,0,0,16777216,16777216,0,0,520093696,1056964608,1056964608,520093696,520093696,0,0]
 refine z4 ?_
 refine zz (fun _ f=>day rfl (f.k rfl) (QC (q) (Yi (f.v rfl) (Qp rfl) rfl)) rfl) ?_
 refine z16 ?_
 refine zz (fun _ f=>day rfl (f.k rfl) (QC (A) (Qr (f.v rfl) (f.v rfl) rfl)) rfl) ?_
 refine z5 ?_
 refine zz (fun _ f=>day rfl (f.k rfl) (QE (e:= .u8) (f.v rfl) (f.en 5 rfl) (f.v rfl) ZD Zd rfl (by omega) (by first | omega | (simp only[az]; omega))) rfl)<|zz (fun _ f=>day rfl (f.k rfl) (Q3 (e:= .u8) (f.v rfl) (f.n 5 rfl) K rfl Zd rfl rfl) rfl) ?_
 refine z3 ?_
 refine zz (fun _ f=>day rfl (f.k rfl) (QE (e:= .u8) (f.v rfl) (f.en 5 rfl) (f.v rfl) ZD Zd rfl (by omega) (by first | omega | (simp only[az]; omega))) rfl)<|zz (fun _ f=>day rfl (f.k rfl) (Q3 (e:= .u8) (f.v rfl) (f.n 5 rfl) L rfl Zd rfl rfl) rfl) ?_
 exact y2
 cases P:(!decide (v=u))
 have a1:(v=u):=QM P
 refine w6 ?_
 refine Qb<|Q2 ⟨i+1,l,p,by omega,rfl,(by exact r.skip o (QjJ M (hv.trans (congrArg some ‹_›)))),rfl⟩ (by omega) ?_
 exact wo []
 have a1:¬(v=u):=QS P
 refine w_ ?_
 apply dV (i6 133 _ _ _ _ _ _ [io 139 (lf (.ept 5 1 ((ar.1).toNat) 0)),io 140 (lf (.dat .u8 u)),io 141 (lf (.ept 5 1 ((ar.2.2.2).toNat) 0)),⟨none,lf (.val undef),[(5,some (.arr 5 .u8 (l.set ((ar.2.2.2).toNat) u)))]⟩,io 11 _]) [0,1,1,7,15,15,7,7,0,0,0]
 refine z6 ?_
 refine zz (fun _ f=>ac (QE (e:= .u8) (f.v rfl) (f.en 5 rfl) (f.v rfl) ZD Zd rfl (by omega) (by first | omega | (simp only[az]; omega))) rfl)<|zz (fun _ f=>ac (Q3 (e:= .u8) (f.v rfl) (f.n 5 rfl) L rfl Zd rfl rfl) rfl)<|zz (fun _ f=>ac (QE (e:= .u8) (f.v rfl) (f.en 5 rfl) (f.v rfl) ZD Zd rfl (by omega) (by first | omega | (simp only[az]; omega))) rfl)<|zz (fun _ f=>ac (QB (e:= .u8) (z':=u) (f.v rfl) (f.n 5 rfl) K rfl (f.w rfl) rfl Zd rfl rfl) rfl) ?_
 exact y1
 refine w4 ?_
 refine Qb<|Q2 ⟨i+1,(l.set ((ar.2.2.2).toNat) u),true,by omega,rfl,(by exact r.hit hr o M hv (by have h9:=ab (a7.symm.trans (by assumption:mv=true)); rwa [W5 M] at h9) (by first | exact QrV ‹_› | exact Qn0 ‹_›) ((QbI b d).1 ‹_›) ‹_›),rfl⟩ (by omega) ?_
 exact wp [] ⟨rfl,(Qe (by first | rfl | simp)),trivial⟩
 refine w4 ?_
 refine alI 85 fun _=> ?_
 refine w_ ?_
 obtain ⟨u,c0⟩:=gx l ((ar.1).toNat)
 have M:=c0
 refine w_ ?_
 refine lc (Qr (Qa rfl) (Qw 43 rfl) rfl) ?_
 refine w_ ?_
 cases Q:(decide (u=43))
 have a2:=aa Q
 refine w5 ?_
 refine lgy rfl rfl (Qr (Qa rfl) (Qw 45 rfl) rfl) ?_
 refine w3 ?_
 refine XP (a8 _ ⟨(decide (u=45)),(by rw[W5 M]; first | exact (aQ (.inl ‹_›)).symm | exact QvX ‹_›),rfl⟩) ?_
 exact wo []
 have a2:=ab Q
 refine w9 ?_
 refine XP (a8 _ ⟨true,(by rw[W5 M]; first | exact (aQ (.inl ‹_›)).symm | exact QvX ‹_›),rfl⟩) ?_
 exact wo []
 have b2:=ab b1
 refine w5 ?_
 obtain ⟨ar,g⟩:=gx c.2.2 k
 have D:=hr _ (ah g)
 obtain ⟨⟨c3,c4⟩,c5,c6⟩:=D
 have B:=(hs.arcs _ (ah g)).2.2.1
 have c9:=hs.some_
 have C:ar.2.1 < (c.1.length:Int):=Ut B
 refine w2 ?_
 refine lc (xal 7 Qs Zg) ?_
 refine w7 ?_
 refine alI 43 fun _=> ?_
 obtain ⟨zf,b7⟩:=gs (⟨(sg0 c.2.1.length block).toArray⟩:ByteArray) ((ar.1).toNat)
 have b:=K1 (by omega) b7
 refine w_ ?_
 refine lc (Qr (Qa rfl) (Qw 48 rfl) rfl) ?_
 refine w_ ?_
 cases F:(decide (zf=48))
 have a3:=aa F
 refine w14 ?_
 refine lc (Qr (Qa rfl) (Qw 49 rfl) rfl) ?_
 refine w_ ?_
 cases R:(decide (zf=49))
 have a4:=aa R
 refine w14 ?_
 refine Qb ?_
 refine l0_ ?_
 exact wp [] ⟨rfl,(Qe (by first | exact Qbj g b d ‹_› ‹_› | exact QbR g b d ‹_› ‹_› | exact Qbl g b d ‹_› ‹_› | exact QbA g b d ‹_› ‹_› | exact Qbn g b ‹_› ‹_›)),trivial⟩
 have a4:=ab R
 refine w3 ?_
 obtain ⟨zt,b8⟩:=gs (⟨(sg0 c.2.1.length block).toArray⟩:ByteArray) ((ar.2.2.2).toNat)
 have d:=K1 (by omega) b8
 refine w_ ?_
 refine lgy rfl rfl (Qr (Qa rfl) (Qw 48 rfl) rfl) ?_
 refine w3 ?_
 cases S:(decide (zt=48))
 have a5:=aa S
 refine w6 ?_
 refine Qb ?_
 refine l0_ ?_
 exact wp [] ⟨rfl,(Qe (by first | exact Qbj g b d ‹_› ‹_› | exact QbR g b d ‹_› ‹_› | exact Qbl g b d ‹_› ‹_› | exact QbA g b d ‹_› ‹_› | exact Qbn g b ‹_› ‹_›)),trivial⟩
 have a5:=ab S
 refine w5 ?_
 refine alI 72 fun _=> ?_
 refine w_ ?_
 obtain ⟨e9,c1⟩:=gx ((c.2.2.take k).foldl (Yb block) (sg0 c.2.1.length block)) ((ar.2.2.2).toNat)
 refine lc (QB (e:= .u8) (z':=45) (Qa rfl) rfl c1 rfl (Evl.ev (Qw 45 rfl)) rfl Zd rfl rfl)<|Qb ?_
 refine w4 ?_
 refine Qb ?_
 refine l0_ ?_
 exact wp [] ⟨rfl,(Qe (by first | exact Qbj g b d ‹_› ‹_› | exact QbR g b d ‹_› ‹_› | exact Qbl g b d ‹_› ‹_› | exact QbA g b d ‹_› ‹_› | exact Qbn g b ‹_› ‹_›)),trivial⟩
 have a3:=ab F
 refine w3 ?_
 obtain ⟨zt,b9⟩:=gs (⟨(sg0 c.2.1.length block).toArray⟩:ByteArray) ((ar.2.2.2).toNat)
 have d:=K1 (by omega) b9
 refine w_ ?_
 refine lgy rfl rfl (Qr (Qa rfl) (Qw 49 rfl) rfl) ?_
 refine w3 ?_
 cases T:(decide (zt=49))
 have a6:=aa T
 refine w6 ?_
 refine lc (Qr (Qa rfl) (Qw 49 rfl) rfl) ?_
 refine w_ ?_
 have U:(decide (zf=49))=false:=aH fun f=>absurd ((ab (F)).symm.trans f) (by decide)
 have c7:=aa U
 try rw[U]
 refine w14 ?_
 refine Qb ?_
 refine l0_ ?_
 exact wp [] ⟨rfl,(Qe (by first | exact Qbj g b d ‹_› ‹_› | exact QbR g b d ‹_› ‹_› | exact Qbl g b d ‹_› ‹_› | exact QbA g b d ‹_› ‹_› | exact Qbn g b ‹_› ‹_›)),trivial⟩
 have a6:=ab T
 refine w5 ?_
 refine alI 55 fun _=> ?_
 refine w_ ?_
 obtain ⟨f0,c2⟩:=gx ((c.2.2.take k).foldl (Yb block) (sg0 c.2.1.length block)) ((ar.2.2.2).toNat)
 refine lc (QB (e:= .u8) (z':=43) (Qa rfl) rfl c2 rfl (Evl.ev (Qw 43 rfl)) rfl Zd rfl rfl)<|Qb ?_
 refine w4 ?_
 refine Qb ?_
 refine l0_ ?_
 exact wp [] ⟨rfl,(Qe (by first | exact Qbj g b d ‹_› ‹_› | exact QbR g b d ‹_› ‹_› | exact Qbl g b d ‹_› ‹_› | exact QbA g b d ‹_› ‹_› | exact Qbn g b ‹_› ‹_›)),trivial⟩
 have b0:=ab a9
 refine w15 ?_
 refine lc (dK (Zp block (k:Int)) VT) ?_
 refine w_ ?_
 cases d1:(block.any (fun y=>decide ((k:Int)=y)))
 refine w5 ?_
 obtain ⟨d7,G⟩:=gs (⟨#[48,43,49,45]⟩:ByteArray) ((0:Int).toNat)
 refine lc (Uw (Evl.str rfl) (Qa rfl) rfl Zf (by omega) G) ?_
 refine lc (dBs 8 (e:= .u8) Qfc) ?_
 refine lc (dA 9 QvB) ?_
 refine w_ ?_
 refine Qb ?_
 refine w4 ?_
 refine Qb ?_
 refine l0_ ?_
 exact wp [(2,9)] ⟨rfl,(Qe (by first | exact Qht (QvN ‹_›) (cw G) | exact Qll (QvW ‹_›) (cw G))),trivial⟩
 refine w7 ?_
 obtain ⟨d8,H⟩:=gs (⟨#[48,43,49,45]⟩:ByteArray) ((2:Int).toNat)
 refine lc (Uw (Evl.str rfl) (Qa rfl) rfl Zf (by omega) H) ?_
 refine lc (dBs 10 (e:= .u8) Qfc) ?_
 refine lc (dA 11 QvB) ?_
 refine w_ ?_
 refine Qb ?_
 refine w4 ?_
 refine Qb ?_
 refine l0_ ?_
 exact wp [(2,11)] ⟨rfl,(Qe (by first | exact Qht (QvN ‹_›) (cw H) | exact Qll (QvW ‹_›) (cw H))),trivial⟩
theorem WU (a:Qf5)(l:List Int):FC Tryz.prog 341 [(true,[dI a.1,dI a.2.1,dB a.2.2.1,dI a.2.2.2]),(false,[.dat QA l])] [] 0 (Q7 (lI (if¬a.1∈l∧a.2.2.2∈l then 1 else if a.1∈l∧¬a.2.2.2∈l then 2 else (0:Int)))):=by
 refine Qt Tryz.func341 rfl rfl Tryz.ntmps341 fun t g r o w q p=> ?_
 refine acG 0 0 fun _=> ?_
 refine acG 0 1 fun _=> ?_
 refine acG 0 3 fun _=> ?_
 refine w_ ?_
 refine xbx 0 ?_
 refine w8 ?_
 refine lc (dK (Z7 l a.1) YX) ?_
 refine w2 ?_
 cases b:(decide (a.1∈l))
 have d:=aa b
 refine w3 ?_
 refine lgy rfl rfl (dK (Z7 l a.2.2.2) YX) ?_
 refine w3 ?_
 refine cd_ (fun _ _=> ?_) fun _ _=> ?_
 refine w4 ?_
 refine lc (dK (Z7 l a.1) YX) ?_
 refine w_ ?_
 have h:(decide (a.1∈l))=false:=b
 try rw[h]
 refine w14 ?_
 refine Qd<|fqI g ?_
 ·(simp_all; done)
 refine w3 ?_
 refine Qd<|fqI g ?_
 ·(simp_all; done)
 have d:=ab b
 refine w12 ?_
 refine lc (dK (Z7 l a.1) YX) ?_
 refine w_ ?_
 have j:(decide (a.1∈l))=true:=b
 try rw[j]
 refine w3 ?_
 refine lgy rfl rfl (dK (Z7 l a.2.2.2) YX) ?_
 refine w4 ?_
 cases e:(decide (a.2.2.2∈l))
 have f:=aa e
 refine w4 ?_
 refine Qd<|fqI g ?_
 ·(simp_all; done)
 have f:=ab e
 refine w6 ?_
 refine Qd<|fqI g ?_
 ·(simp_all; done)
end Go.Proofs.YtgpdhgadmjfokaaGreat
