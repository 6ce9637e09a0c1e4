/- Walks over abstract states: the signs by which a block becomes a partition, both sides. -/
import Derived.Test.YtjaadeknhofhpaaGreatUb
set_option linter.unusedSimpArgs false
set_option linter.unusedVariables false
set_option linter.unusedSectionVars false
namespace Go.Proofs.YtjaadeknhofhpaaGreat
open Go.RowKit
set_option maxRecDepth 100000
set_option maxHeartbeats 4000000
def sg0 (n:Nat)(block:List Int):List UInt8:=(List.range n).map fun k:Nat=>if (k:Int)∈block then (49:UInt8) else 48
def Z8 (block:List Int)(s:List UInt8)(a:DAr):List UInt8:=if¬a.1∈block∧a.2.2.2∈block then s.set a.2.2.2.toNat 43 else if a.1∈block∧¬a.2.2.2∈block then s.set a.2.2.2.toNat 45 else s
def inA (c:DSg)(a:DAr):Bool:=decide (a.2.1 < 0)||decide (((c.1[a.2.1.toNat]?).getD (ByteArray.empty,0)).2=1)
def sAt (s:List UInt8)(x:Int):UInt8:=(s[x.toNat]?).getD 0
def ZT (c:DSg)(block:List Int)(s:List UInt8)(a:DAr):List UInt8:=if (sAt s a.1=43∨sAt s a.1=45)∧inA c a=true∧(a.1∈block↔a.2.2.2∈block) then s.set a.2.2.2.toNat (sAt s a.1) else s
def ZQ (c:DSg)(block:List Int)(s:List UInt8):List UInt8:=c.2.2.foldl (ZT c block) s
def Z9 (c:DSg)(block:List Int):List UInt8:=c.2.2.foldl (Z8 block) (sg0 c.2.1.length block)
def QnP (c:DSg)(block:List Int):List UInt8:=Q1 (ZQ c block) c.2.1.length (Z9 c block)
def Ym (c:DSg)(block:List Int):ByteArray:=⟨(QnP c block).toArray⟩
structure SI (n:Nat) (block:List Int) (s:List UInt8):Prop where
  len:s.length=n
  at_:∀x:Int,0≤x→x < (n:Int)→(x∈block∧(sAt s x=49∨sAt s x=43))∨(¬x∈block∧(sAt s x=48∨sAt s x=45))
def nMk (s:List UInt8):Nat:=(s.filter fun x=>decide (x=43∨x=45)).length
def cMk (s:List UInt8):Nat:=(s.filter fun x=> !decide (x=43∨x=45)).length
section
variable {c:DSg}{as_:List DAr}{a:DAr}{block:List Int}{k i n m:Nat}{s s2 sg:List UInt8}{x y:Int}{z zf zt u v:UInt8}{ch:Bool}
theorem Qsp (l:List UInt8):(⟨l.toArray⟩:ByteArray).toList=l:=by simp[bj]
theorem QvC {b:ByteArray}{j:Nat}(h:b[j]? =some z):b.toList[j]? =some z:=Qbl (k:=j) (by simpa using h)
theorem Qgi {α:Type}{l:List α}{j:Nat}{w:α}(h:l[j]? =some w):l.set j w=l:=by
  apply bz
  intro i
  by_cases e:j=i
  · subst e; rw[aR (ab.1 h).1,h]
  · rw[aZ e]
theorem Qpe {n:Int}{l:Int×Bool}(h:Vs n l)(h1:¬l.1= -1):0≤l.1:=by
  rcases h with h | h
  · exact h.1
  · exact absurd h.1 h1
theorem WY (h:s[x.toNat]? =some z):sAt s x=z:=by unfold sAt; rw[h]; rfl
theorem QrZ (hl:s.length=n)(h0:0≤y)(h1:y < (n:Int))(h2:0≤x):sAt (s.set y.toNat z) x=if x=y then z else sAt s x:=by
  unfold sAt
  by_cases e:x=y
  · subst e; rw[aR (by omega),if_pos rfl]; rfl
  · rw[aZ (by omega),if_neg e]
theorem QsK {l:List Int}{v:Int}(h:(l.any fun y=>decide (v=y))=true):v∈l:=by simpa using h
theorem Qss {l:List Int}{v:Int}(h:(l.any fun y=>decide (v=y))=false):¬v∈l:=fun g=>by
  rw[cr] at h
  exact h v g (aI rfl)
theorem Kc:(sg0 n block).length=n:=by simp[sg0]
theorem Qht (h:(k:Int)∈block)(e:(49:UInt8)=z):sg0 k block++[z]=sg0 (k+1) block:=by subst e; simp[sg0,bK,h]
theorem Qjl (h:¬(k:Int)∈block)(e:(48:UInt8)=z):sg0 k block++[z]=sg0 (k+1) block:=by subst e; simp[sg0,bK,h]
theorem Qq1:SI n block (sg0 n block):=⟨Kc,fun x h0 h1=>by
  have hx:(sg0 n block)[x.toNat]? =some (if x∈block then (49:UInt8) else 48):=by
    unfold sg0
    rw[b6,cQ (by omega)]
    simp only[cU]
    rw[show ((x.toNat:Nat):Int)=x by omega]
  rw[WY hx]
  by_cases h:x∈block <;> simp[h]⟩
theorem Kg (h0:0≤x)(h:(⟨(sg0 n block).toArray⟩:ByteArray)[x.toNat]? =some z):(z=49∧x∈block)∨(z=48∧¬x∈block):=by
  have h2:=QvC h
  have h3:(sg0 n block)[x.toNat]? =some z:=by rw[← h2,Qsp]
  unfold sg0 at h3
  rw[b6] at h3
  obtain ⟨j,hj,e⟩:=bL.1 h3
  have hj2:=(ab.1 hj).1
  rw[List.length_range] at hj2
  rw[cQ hj2] at hj
  cases hj
  rw[show ((x.toNat:Nat):Int)=x by omega] at e
  by_cases hb:x∈block
  · simp only[hb,if_true] at e; exact .inl ⟨e.symm,hb⟩
  · simp only[hb,if_false] at e; exact .inr ⟨e.symm,hb⟩
theorem SI.set (h:SI n block s)(h0:0≤y)(h1:y < (n:Int))(hz:(y∈block∧z=43)∨(¬y∈block∧z=45)):SI n block (s.set y.toNat z):=by
  refine ⟨by rw[au]; exact h.len,fun x k0 k1=> ?_⟩
  rw[QrZ h.len h0 h1 k0]
  by_cases e:x=y
  · subst e
    rw[if_pos rfl]
    rcases hz with ⟨g1,g2⟩ | ⟨g1,g2⟩
    · exact .inl ⟨g1, .inr g2⟩
    · exact .inr ⟨g1, .inr g2⟩
  · rw[if_neg e]; exact h.at_ x k0 k1
theorem SI.mark (h:SI n block s)(ha:InR n a):SI n block (Z8 block s a):=by
  unfold Z8
  split
  · rename_i g; exact h.set ha.2.1 ha.2.2 (.inl ⟨g.2,rfl⟩)
  · split
    · rename_i g; exact h.set ha.2.1 ha.2.2 (.inr ⟨g.2,rfl⟩)
    · exact h
theorem Qey:∀{as_:List DAr} {s:List UInt8},(∀a∈as_,InR n a)→SI n block s→SI n block (as_.foldl (Z8 block) s)
  | [],_,_,h=>h
  | a :: as_,s,hr,h=>by
    rw[aS]
    exact Qey (fun b hb=>hr b (ax _ hb)) (h.mark (hr a (aA ..)))
theorem SI.val (h:SI n block s)(ha:InR n a)(h1:sAt s a.1=43∨sAt s a.1=45)(h2:a.1∈block↔a.2.2.2∈block):(a.2.2.2∈block∧sAt s a.1=43)∨(¬a.2.2.2∈block∧sAt s a.1=45):=by
  rcases h.at_ a.1 ha.1.1 ha.1.2 with ⟨g1,g2⟩ | ⟨g1,g2⟩
  · refine .inl ⟨h2.1 g1, ?_⟩
    rcases g2 with g2 | g2
    · rw[g2] at h1; rcases h1 with h1 | h1 <;> exact absurd h1 (by decide)
    · exact g2
  · refine .inr ⟨fun g => g1 (h2.2 g), ?_⟩
    rcases g2 with g2 | g2
    · rw[g2] at h1; rcases h1 with h1 | h1 <;> exact absurd h1 (by decide)
    · exact g2
theorem Qix (q:UInt8→Bool):∀{s:List UInt8} {j:Nat} {u v:UInt8},s[j]? =some u→q u=false→q v=true→((s.set j v).filter q).length=(s.filter q).length+1
  | [],j,u,v,h,_,_=>by simp at h
  | w :: s,0,u,v,h,h1,h2=>by
    simp at h; subst h
    simp[h1,h2]
  | w :: s,j+1,u,v,h,h1,h2=>by
    have ih:=Qix q (s:=s) (j:=j) (by simpa using h) h1 h2
    rw[cB]
    by_cases e:q w=true
    · rw[List.filter_cons_of_pos e,List.filter_cons_of_pos e,ao,ao,ih]
    · rw[List.filter_cons_of_neg e,List.filter_cons_of_neg e,ih]
theorem Qge (q:UInt8→Bool):∀{s:List UInt8} {j:Nat} {u v:UInt8},s[j]? =some u→q u=true→q v=false→((s.set j v).filter q).length+1=(s.filter q).length
  | [],j,u,v,h,_,_=>by simp at h
  | w :: s,0,u,v,h,h1,h2=>by
    simp at h; subst h
    simp[h1,h2]
  | w :: s,j+1,u,v,h,h1,h2=>by
    have ih:=Qge q (s:=s) (j:=j) (by simpa using h) h1 h2
    rw[cB]
    by_cases e:q w=true
    · rw[List.filter_cons_of_pos e,List.filter_cons_of_pos e,ao,ao,ih]
    · rw[List.filter_cons_of_neg e,List.filter_cons_of_neg e,ih]
theorem QeN (h:SI n block s)(ha:InR n a):SI n block (ZT c block s a)∧(ZT c block s a=s∨(nMk s < nMk (ZT c block s a)∧cMk (ZT c block s a) < cMk s)):=by
  unfold ZT
  split
  · rename_i g
    have hv:=h.val ha g.1 g.2.2
    refine ⟨h.set ha.2.1 ha.2.2 hv, ?_⟩
    have hl:=h.len
    have hg:s[a.2.2.2.toNat]? =some (sAt s a.2.2.2):=by
      unfold sAt
      rw[ai (by have:=ha.2; omega)]; rfl
    by_cases e:sAt s a.2.2.2=sAt s a.1
    · exact .inl (by rw[← e]; exact Qgi hg)
    · right
      have hu:¬(sAt s a.2.2.2=43∨sAt s a.2.2.2=45):=fun hu=>by
        rcases h.at_ a.2.2.2 ha.2.1 ha.2.2 with ⟨g1,g2⟩ | ⟨g1,g2⟩ <;> rcases hv with ⟨v1,v2⟩ | ⟨v1,v2⟩
        · rcases g2 with g2 | g2
          · rw[g2] at hu; rcases hu with hu | hu <;> exact absurd hu (by decide)
          · exact e (g2.trans v2.symm)
        · exact v1 g1
        · exact g1 v1
        · rcases g2 with g2 | g2
          · rw[g2] at hu; rcases hu with hu | hu <;> exact absurd hu (by decide)
          · exact e (g2.trans v2.symm)
      constructor
      · unfold nMk
        rw[Qix _ hg (az hu) (aI g.1)]; omega
      · unfold cMk
        have:=Qge (fun x=> !decide (x=43∨x=45)) hg (by simp only[az hu]; rfl) (v:=sAt s a.1) (by simp only[aI g.1]; rfl)
        omega
  · exact ⟨h, .inl rfl⟩
theorem Ui:∀{as_:List DAr} {s:List UInt8},(∀a∈as_,InR n a)→SI n block s→SI n block (as_.foldl (ZT c block) s)∧(as_.foldl (ZT c block) s=s∨nMk s < nMk (as_.foldl (ZT c block) s))
  | [],_,_,h=>⟨h, .inl rfl⟩
  | a :: as_,s,hr,h=>by
    obtain ⟨h1,h2⟩:=QeN (c:=c) h (hr a (aA ..))
    obtain ⟨h3,h4⟩:=Ui (fun b hb=>hr b (ax _ hb)) h1
    refine ⟨h3, ?_⟩
    rw[aS]
    rcases h2 with h2 | ⟨h2,_⟩ <;> rcases h4 with h4 | h4
    · exact .inl (h4.trans h2)
    · rw[h2] at h4 ⊢; exact .inr h4
    · rw[h4]; exact .inr h2
    · exact .inr (by omega)
theorem Qe1 (f:List UInt8→List UInt8)(hf:∀s,SI n block s→SI n block (f s))(h:SI n block s):∀k,SI n block (Q1 f k s)
  | 0=>h
  | k+1=>hf _ (Qe1 f hf h k)
theorem Qba (hr:∀a∈c.2.2,InR c.2.1.length a):SI c.2.1.length block (Z9 c block):=Qey hr Qq1
theorem QgQ (hr:∀a∈c.2.2,InR c.2.1.length a)(h:SI c.2.1.length block s):SI c.2.1.length block (ZQ c block s):=(Ui hr h).1
theorem Qmu (hr:∀a∈c.2.2,InR c.2.1.length a):SI c.2.1.length block (QnP c block):=Qe1 _ (fun _ h=>QgQ hr h) (Qba hr) _
theorem Qqd (hr:∀a∈c.2.2,InR c.2.1.length a):ZQ c block (QnP c block)=QnP c block:=
  Qh6 (f:=ZQ c block) (I:=SI c.2.1.length block) (m:=nMk) (fun _ h=>QgQ hr h) (fun s h=>by unfold nMk; rw[← h.len]; exact bG ..) (fun s h=>(Ui hr h).2) (Qba hr)
theorem Qb1 {α:Type}{f:α→α}{x:α}(h:f (Q1 f k x)=Q1 f k x):∀j,Q1 f (k+j) x=Q1 f k x
  | 0=>rfl
  | j+1=>by show f (Q1 f (k+j) x)=_; rw[Qb1 h j,h]
theorem Qow {α:Type}{f:α→α}{x:α}(h:f (Q1 f k x)=Q1 f k x)(h2:f (Q1 f m x)=Q1 f m x):Q1 f k x=Q1 f m x:=by
  rcases Nat.le_total k m with hl | hl
  · have:=Qb1 h (m - k); rw[show k+(m - k)=m by omega] at this; exact this.symm
  · have:=Qb1 h2 (k - m); rw[show m+(k - m)=k by omega] at this; exact this
theorem Qr9 (hr:∀a∈c.2.2,InR c.2.1.length a)(h:∃j,sg=Q1 (ZQ c block) j (Z9 c block))(hf:ZQ c block sg=sg):sg=QnP c block:=by
  obtain ⟨j,rfl⟩:=h
  exact Qow hf (Qqd hr)
theorem QbD (hs:SgOk c):SignsOk c (Ym c block):=by
  have hr:∀a∈c.2.2,InR c.2.1.length a:=fun a ha=>Xi (hs.arcs a ha)
  have hi:=Qmu (block:=block) hr
  refine ⟨fun x hx=> ?_, ?_,hs⟩
  · unfold Ym at hx
    rw[Qsp] at hx
    obtain ⟨j,hj⟩:=aJ.1 hx
    have hl:=(ab.1 hj).1
    have:=hi.at_ (j:Int) (by omega) (by have:=hi.len; omega)
    rw[WY (by simpa using hj)] at this
    rcases this with ⟨_,h | h⟩ | ⟨_,h | h⟩
    · exact .inr (.inr (.inl h))
    · exact .inr (.inl h)
    · exact .inl h
    · exact .inr (.inr (.inr h))
  · show (QnP c block).toArray.size = _
    simpa using hi.len
theorem Qi5 (hr:∀a∈c.2.2,InR c.2.1.length a):((c.2.2.take k).foldl (Z8 block) (sg0 c.2.1.length block)).length=c.2.1.length:=(Qey (fun a ha=>hr a (List.mem_of_mem_take ha)) Qq1).len
theorem QmJ (hx:as_[k]? =some a)(h1:¬a.1∈block)(h2:a.2.2.2∈block):((as_.take k).foldl (Z8 block) s).set a.2.2.2.toNat 43=(as_.take (k+1)).foldl (Z8 block) s:=by
  rw[QO hx,b9]; simp[Z8,h1,h2]
theorem QhY (hx:as_[k]? =some a)(h1:a.1∈block)(h2:¬a.2.2.2∈block):((as_.take k).foldl (Z8 block) s).set a.2.2.2.toNat 45=(as_.take (k+1)).foldl (Z8 block) s:=by
  rw[QO hx,b9]; simp[Z8,h1,h2]
theorem QaQ (hx:as_[k]? =some a)(h:a.1∈block↔a.2.2.2∈block):(as_.take k).foldl (Z8 block) s=(as_.take (k+1)).foldl (Z8 block) s:=by
  rw[QO hx,b9]
  simp only[aS,bX,Z8]
  by_cases e:a.1∈block
  · simp[e,h.1 e]
  · have : ¬ a.2.2.2 ∈ block := fun g => e (h.2 g)
    simp[e,this]
structure PI (c:DSg) (block:List Int) (sg:List UInt8) (i:Nat) (s:List UInt8) (ch:Bool):Prop where
  si:SI c.2.1.length block s
  eq:ZQ c block sg=(c.2.2.drop i).foldl (ZT c block) s
  no:ch=false→s=sg
  yes:ch=true→cMk s < cMk sg
  le:cMk s≤cMk sg
theorem PI.start (h:SI c.2.1.length block sg):PI c block sg 0 sg false:=⟨h,rfl,fun _=>rfl,(fun h=>by cases h),aO _⟩
theorem QmP (hx:as_[i]? =some a):as_.drop i=a :: as_.drop (i+1):=by
  obtain ⟨h1,h2⟩:=ab.1 hx
  rw[List.drop_eq_getElem_cons h1,h2]
theorem PI.skip (h:PI c block sg i s ch)(hx:c.2.2[i]? =some a)(hn:ZT c block s a=s):PI c block sg (i+1) s ch:=⟨h.si,by rw[h.eq,QmP hx,aS,hn],h.no,h.yes,h.le⟩
theorem PI.hit (h:PI c block sg i s ch)(hr:∀a∈c.2.2,InR c.2.1.length a)(hx:c.2.2[i]? =some a)(h1:s[a.1.toNat]? =some u)(h2:s[a.2.2.2.toNat]? =some v)(hm:u=43∨u=45)(hi:inA c a=true)(hb:a.1∈block↔a.2.2.2∈block)(hne:¬v=u):PI c block sg (i+1) (s.set a.2.2.2.toNat u) true:=by
  have ha:=hr a (a8 hx)
  have hmv:ZT c block s a=s.set a.2.2.2.toNat u:=by
    unfold ZT
    rw[WY h1,if_pos ⟨hm,hi,hb⟩]
  obtain ⟨k1,k2⟩:=QeN (c:=c) h.si ha
  rw[hmv] at k1 k2
  have k3:¬s.set a.2.2.2.toNat u=s:=fun e=>by
    have h3:(s.set a.2.2.2.toNat u)[a.2.2.2.toNat]? =some u:=aR (ab.1 h2).1
    rw[e,h2] at h3
    cases h3; exact hne rfl
  have k4:=(k2.resolve_left k3).2
  have:=h.le
  exact ⟨k1,by rw[h.eq,QmP hx,aS,hmv],(fun h=>by cases h),fun _=>by omega,by omega⟩
theorem PI.end_ (h:PI c block sg i s ch)(hi:c.2.2.length≤i):s=ZQ c block sg:=by rw[h.eq,bt hi]; rfl
theorem Qth (h:ch=true){ch2:Bool}(hP:PI c block sg i s ch2):(if ch2=true then cMk s+1 else 0) < (if ch=true then cMk sg+1 else 0):=by
  subst h
  have h1:=hP.yes
  cases ch2 with
  | true=>have:=h1 rfl; simp; omega
  | false=>simp
theorem UH (h1:s[a.1.toNat]? =some u)(h:¬(u=43∨u=45)):ZT c block s a=s:=by unfold ZT; rw[WY h1,if_neg fun g=>h g.1]
theorem QnF (h:¬(sAt s a.1=43∨sAt s a.1=45)):ZT c block s a=s:=by unfold ZT; rw[if_neg fun g=>h g.1]
theorem Qsq (h:¬u=43):decide (u=45)=decide (u=43∨u=45):=by simp[h]
theorem VL (h:¬inA c a=true):ZT c block s a=s:=by unfold ZT; rw[if_neg fun g=>h g.2.1]
theorem W7 (h:¬(a.1∈block↔a.2.2.2∈block)):ZT c block s a=s:=by unfold ZT; rw[if_neg fun g=>h g.2.2]
theorem Qiy (h1:s[a.1.toNat]? =some u)(h2:s[a.2.2.2.toNat]? =some u):ZT c block s a=s:=by
  unfold ZT
  split
  · rw[WY h1]; exact Qgi h2
  · rfl
theorem Qq4 (h:a.2.1= -1):inA c a=true:=by unfold inA; rw[h]; rfl
theorem Qms (h:XE c a.2.1=true):inA c a=true:=by
  unfold XE at h
  simp only[aG] at h
  unfold inA
  rw[h.2,Bool.or_true]
theorem Qrw (hc:Vs (c.1.length:Int) (a.2.1,a.2.2.1))(h1:¬a.2.1= -1)(h2:XE c a.2.1=false):¬inA c a=true:=fun h=>by
  unfold inA at h
  unfold XE at h2
  rw[bA] at h
  have h0:0≤a.2.1:=Qpe hc h1
  rcases h with h | h
  · have:=a7 h; omega
  · rw[h,aI h0] at h2; cases h2
theorem Ud {c:DSg}{a:DAr}(h:Vs (c.1.length:Int) (a.2.1,a.2.2.1)):a.2.1 < (c.1.length:Int):=by
  rcases h with h | h
  · have:=h.2; simp only at this; omega
  · have:=h.1; simp only at this; omega
theorem Qa5 (hx:as_[k]? =some a)(h1:(zf=49∧a.1∈block)∨(zf=48∧¬a.1∈block))(h2:(zt=49∧a.2.2.2∈block)∨(zt=48∧¬a.2.2.2∈block))(e1:zf=48)(e2:zt=49):((as_.take k).foldl (Z8 block) s).set a.2.2.2.toNat 43=(as_.take (k+1)).foldl (Z8 block) s:=by
  subst e1 e2
  exact QmJ hx (h1.resolve_left fun h=>absurd h.1 (by decide)).2 (h2.resolve_right fun h=>absurd h.1 (by decide)).2
theorem Qa9 (hx:as_[k]? =some a)(h1:(zf=49∧a.1∈block)∨(zf=48∧¬a.1∈block))(h2:(zt=49∧a.2.2.2∈block)∨(zt=48∧¬a.2.2.2∈block))(e1:zf=49)(e2:zt=48):((as_.take k).foldl (Z8 block) s).set a.2.2.2.toNat 45=(as_.take (k+1)).foldl (Z8 block) s:=by
  subst e1 e2
  exact QhY hx (h1.resolve_right fun h=>absurd h.1 (by decide)).2 (h2.resolve_left fun h=>absurd h.1 (by decide)).2
theorem Qbo (hx:as_[k]? =some a)(h1:(zf=49∧a.1∈block)∨(zf=48∧¬a.1∈block))(h2:(zt=49∧a.2.2.2∈block)∨(zt=48∧¬a.2.2.2∈block))(e1:zf=48)(e2:¬zt=49):(as_.take k).foldl (Z8 block) s=(as_.take (k+1)).foldl (Z8 block) s:=by
  subst e1
  have k1:=(h1.resolve_left fun h=>absurd h.1 (by decide)).2
  have k2:=(h2.resolve_left fun h=>e2 h.1).2
  exact QaQ hx ⟨fun h=>absurd h k1,fun h=>absurd h k2⟩
theorem Qau (hx:as_[k]? =some a)(h1:(zf=49∧a.1∈block)∨(zf=48∧¬a.1∈block))(h2:(zt=49∧a.2.2.2∈block)∨(zt=48∧¬a.2.2.2∈block))(e1:zf=49)(e2:¬zt=48):(as_.take k).foldl (Z8 block) s=(as_.take (k+1)).foldl (Z8 block) s:=by
  subst e1
  have k1:=(h1.resolve_right fun h=>absurd h.1 (by decide)).2
  have k2:=(h2.resolve_right fun h=>e2 h.1).2
  exact QaQ hx ⟨fun _=>k2,fun _=>k1⟩
theorem Qak (hx:as_[k]? =some a)(h1:(zf=49∧a.1∈block)∨(zf=48∧¬a.1∈block))(e1:¬zf=48)(e2:¬zf=49):(as_.take k).foldl (Z8 block) s=(as_.take (k+1)).foldl (Z8 block) s:=by
  rcases h1 with h | h
  · exact absurd h.1 e2
  · exact absurd h.1 e1
theorem Qbp {zf zt:UInt8}(h1:(zf=49∧x∈block)∨(zf=48∧¬x∈block))(h2:(zt=49∧y∈block)∨(zt=48∧¬y∈block)):zf=zt↔(x∈block↔y∈block):=by
  rcases h1 with ⟨rfl,h1⟩ | ⟨rfl,h1⟩ <;> rcases h2 with ⟨rfl,h2⟩ | ⟨rfl,h2⟩ <;> simp[h1,h2]
end
theorem HT (c:(List (ByteArray×Int))×List ByteArray×(List (Int×Int×Bool×Int)))(block:List Int)(hs:SgOk c):FC Tryz.prog 275 [(true,[.dat Qo c.1, .dat Qr c.2.1, .dat QD c.2.2]),(false,[.dat QI block])] [] 0 (Zk (lf (dS (Ym c block)))):=by
 have hr:∀a∈c.2.2,InR c.2.1.length a:=fun a ha=>Xi (hs.arcs a ha)
 have hc4:(⟨#[48,43,49,45]⟩:ByteArray).size=4:=rfl
 have hn3:=hs.some_
 have hs0l:=Kc (n:=c.2.1.length) (block:=block)
 have hsz:(⟨(sg0 c.2.1.length block).toArray⟩:ByteArray).size=c.2.1.length:=by show ((sg0 c.2.1.length block).toArray).size=_; rw[List.size_toArray,Kc]
 refine Qy Tryz.func275 rfl rfl Tryz.ntmps275 fun O_ hO w0_ N0_ X_ h0_ f0_=> ?_
 refine w_ ?_
 refine xbx 0 ?_
 iterate 3 refine w_ ?_
 refine lc (dBs 1 (e:= .u8) Qdl) ?_
 iterate 6 refine w_ ?_
 refine AL.fact (Qp (x:= .tmp 17) (Qa rfl)) fun hl1=> ?_
 iterate 4 refine w_ ?_
 refine Qm (fun m_ s_=>∃(k:Nat),k≤c.2.1.length∧m_=c.2.1.length - k∧s_=⟨[(1,lf (.dat QI block)),(2,lP 0 0),(4,lf (dS (⟨#[]⟩:ByteArray))),(5,lR 2),(18,lI (c.2.1.length:Int)),(19,lI (k:Int))],[(0,some (.box 52 [.dat Qo c.1, .dat Qr c.2.1, .dat QD c.2.2])),(2,some (.arr 5 .u8 (sg0 k block)))]⟩) ⟨0,ap _,rfl,rfl⟩ ?_ ?_
 exact wp [(2,1)] ⟨rfl,(Qh (rfl)),trivial⟩
 rintro m_ s_ ⟨k,hk2,hm3,rfl⟩
 have hsk:=Kc (n:=k) (block:=block)
 iterate 4 refine w_ ?_
 cases hb4:(decide ((k:Int) < (c.2.1.length:Int)))
 have hb4':=a6 hb4
 iterate 3 refine w_ ?_
 refine Yd ?_
 obtain rfl:k=c.2.1.length:=by omega
 iterate 2 refine w_ ?_
 refine lc (Zt (ys:=sg0 c.2.1.length block) (YS (Qa rfl) rfl) ZF Ve Zo rfl) ?_
 iterate 6 refine w_ ?_
 refine AL.fact (Qp (x:= .tmp 34) (Qa rfl)) fun hl5=> ?_
 iterate 4 refine w_ ?_
 refine Qm (fun m_ s_=>∃(k:Nat),k≤c.2.2.length∧m_=c.2.2.length - k∧s_=⟨[(2,lP 0 0),(4,lf (dS (⟨#[]⟩:ByteArray))),(5,lR 3),(8,lf (dS (⟨(sg0 c.2.1.length block).toArray⟩:ByteArray))),(34,lf (.dat QD c.2.2)),(35,lI (c.2.2.length:Int)),(36,lI (k:Int))],[(0,some (.box 52 [.dat Qo c.1, .dat Qr c.2.1, .dat QD c.2.2])),(3,some (.arr 5 .u8 ((c.2.2.take k).foldl (Z8 block) (sg0 c.2.1.length block))))]⟩) ⟨0,ap _,rfl,rfl⟩ ?_ ?_
 exact wp [(3,2)] ⟨rfl,(Qh (by simp only[cD,bX])),trivial⟩
 rintro m_ s_ ⟨k,hk6,hm7,rfl⟩
 have hmk:=Qi5 (block:=block) (k:=k) hr
 iterate 4 refine w_ ?_
 cases hb8:(decide ((k:Int) < (c.2.2.length:Int)))
 have hb8':=a6 hb8
 iterate 8 refine w_ ?_
 refine Qm (fun m_ s_=>∃(sg:List UInt8) (ch:Bool),m_=(if ch=true then cMk sg+1 else 0)∧(∃j,sg=Q1 (ZQ c block) j (Z9 c block))∧(SI c.2.1.length block sg)∧(ch=false→ZQ c block sg=sg)∧s_=⟨[(2,lP 0 0),(4,lf (dS (⟨#[]⟩:ByteArray))),(5,lR 4),(8,lf (dS (⟨(sg0 c.2.1.length block).toArray⟩:ByteArray))),(11,lB ch)],[(0,some (.box 52 [.dat Qo c.1, .dat Qr c.2.1, .dat QD c.2.2])),(4,some (.arr 5 .u8 sg))]⟩) ⟨(c.2.2.take k).foldl (Z8 block) (sg0 c.2.1.length block),true,rfl,⟨0,(by rw[QN (by omega)]; rfl)⟩,(by rw[QN (by omega)]; exact Qba hr),(fun h=>by cases h),rfl⟩ ?_ ?_
 exact wp [(4,3)] ⟨rfl,(Qh (by first | rfl | simp)),trivial⟩
 rintro m_ s_ ⟨sg,ch,hm10,hJ,hS,hF,rfl⟩
 have hsl:=hS.len
 iterate 4 refine w_ ?_
 cases hb11:(ch)
 iterate 5 refine w_ ?_
 refine lc (Zt (ys:=sg) (YS (Qa rfl) rfl) ZF Ve Zo rfl) ?_
 iterate 3 refine w_ ?_
 subst hO
 have e12:((⟨(sg).toArray⟩:ByteArray):ByteArray)=(Ym c block):=by
  (unfold Ym; rw[Qr9 hr hJ (hF ‹_›)])
 exact Qe (Res.one rfl (Qb rfl)) (by rw[e12] <;> rfl) rfl
 iterate 9 refine w_ ?_
 refine AL.fact (Qp (x:= .tmp 77) (Qa rfl)) fun hl13=> ?_
 iterate 4 refine w_ ?_
 refine Qm (fun m_ s_=>∃(i:Nat) (sg2:List UInt8) (ch2:Bool),i≤c.2.2.length∧m_=c.2.2.length - i∧(PI c block sg i sg2 ch2)∧s_=⟨[(2,lP 0 0),(4,lf (dS (⟨#[]⟩:ByteArray))),(5,lR 5),(8,lf (dS (⟨(sg0 c.2.1.length block).toArray⟩:ByteArray))),(11,lB ch2),(75,lB true),(76,lP 0 2),(77,lf (.dat QD c.2.2)),(78,lI (c.2.2.length:Int)),(79,lI (i:Int))],[(0,some (.box 52 [.dat Qo c.1, .dat Qr c.2.1, .dat QD c.2.2])),(5,some (.arr 5 .u8 sg2))]⟩) ⟨0,sg,false,ap _,rfl,(PI.start hS),rfl⟩ ?_ ?_
 exact wo [(5,4)]
 rintro m_ s_ ⟨i,sg2,ch2,hk14,hm15,hP,rfl⟩
 have hsl2:=hP.si.len
 iterate 4 refine w_ ?_
 cases hb16:(decide ((i:Int) < (c.2.2.length:Int)))
 have hb16':=a6 hb16
 refine w_ ?_
 refine QlQ<|QE ⟨sg2,ch2,rfl,(by obtain ⟨j,hj⟩:=hJ; exact ⟨j+1,(hP.end_ (by omega)).trans (by rw[hj]; rfl)⟩),hP.si,(fun h=>by have h1:=hP.no h; have h2:=hP.end_ (by omega); rw[h1] at h2 ⊢; exact h2.symm),rfl⟩ (by (rw[hm10]; exact Qth ‹_› hP)) ?_
 exact wo [(4,5)]
 have hb16':=a7 hb16
 iterate 5 refine w_ ?_
 obtain ⟨ar,hx18⟩:=gx c.2.2 i
 have hain:=hr _ (a8 hx18)
 obtain ⟨⟨ha1,ha2⟩,ha3,ha4⟩:=hain
 have hlab:=(hs.arcs _ (a8 hx18)).2.2.1
 have hsn:=hs.some_
 have hslt:ar.2.1 < (c.1.length:Int):=Ud hlab
 iterate 2 refine w_ ?_
 refine lc (xal 6 QA Za) ?_
 iterate 2 refine w_ ?_
 refine VW (fun s_=>∃(mv:Bool),(mv=decide (sAt sg2 ar.1=43∨sAt sg2 ar.1=45))∧s_=⟨[(2,lP 0 0),(4,lf (dS (⟨#[]⟩:ByteArray))),(5,lR 5),(8,lf (dS (⟨(sg0 c.2.1.length block).toArray⟩:ByteArray))),(11,lB ch2),(13,lP 6 0),(14,lB mv),(75,lB true),(76,lP 0 2),(77,lf (.dat QD c.2.2)),(78,lI (c.2.2.length:Int)),(79,lI (i:Int)),(80,lB true),(81,lf (.elt QA ar 0)),(82,ag [dI ar.1,dI ar.2.1,dB ar.2.2.1,dI ar.2.2.2])],[(0,some (.box 52 [.dat Qo c.1, .dat Qr c.2.1, .dat QD c.2.2])),(5,some (.arr 5 .u8 sg2)),(6,some (.box 106 [dI ar.1,dI ar.2.1,dB ar.2.2.1,dI ar.2.2.2]))]⟩) ?_ fun J19=> ?_
 rintro s_ ⟨mv,hmv,rfl⟩
 cases hb20:(mv)
 apply dW [io 97 _,io 98 _,io 99 _,io 100 _,io 101 _,io 102 _,io 103 _,io 104 _,io 105 _,io 106 _,io 107 _,io 108 _,io 109 _,io 110 _,io 111 _,io 112 _,io 113 _,io 114 _,io 115 _,io 116 _,io 117 _,io 118 _,io 119 _,io 120 _,io 121 _,io 122 _,io 123 _,io 124 _,io 125 _,io 126 _,io 127 _,io 128 _,io 129 _,io 130 _,io 131 _,io 132 _] [0,0,0,0,0,0,0,64,64,0,0,0,0,0,8192,8192,0,122880,253952,253952,122880,0,0,0,0,16777216,16777216,0,0,520093696,1056964608,1056964608,520093696,520093696,0,0]
 iterate 36 refine z_ ?_
 exact zN
 iterate 6 refine w_ ?_
 refine Qc<|QE ⟨i+1,sg2,ch2,by omega,rfl,(by exact hP.skip hx18 (QnF (a6 (hmv.symm.trans (by assumption:mv=false))))),rfl⟩ (by omega) ?_
 exact wo []
 cases hb21:(decide (ar.2.1=(-1)))
 have hb21':=a6 hb21
 cases hb22:(XE c ar.2.1)
 apply dW [io 97 _,io 98 _,io 99 _,io 100 _,io 101 (lB false),io 102 _,io 103 _,io 104 _,io 105 _,io 106 (lB false),io 107 _,io 108 _,io 109 _,io 110 _,io 111 _,io 112 _,io 113 _,io 114 _,io 115 _,io 116 _,io 117 _,io 118 _,io 119 _,io 120 _,io 121 _,io 122 _,io 123 _,io 124 _,io 125 _,io 126 _,io 127 _,io 128 _,io 129 _,io 130 _,io 131 _,io 132 _] [0,0,0,0,0,0,0,64,64,0,0,0,0,0,8192,8192,0,122880,253952,253952,122880,0,0,0,0,16777216,16777216,0,0,520093696,1056964608,1056964608,520093696,520093696,0,0]
 iterate 4 refine z_ ?_
 refine zz (fun _ h_=>day rfl (h_.k rfl) (QL (hb21) (VT (h_.v rfl) (Qu rfl) rfl)) rfl) ?_
 iterate 4 refine z_ ?_
 refine zz (fun _ h_=>day rfl (h_.k rfl) (QL (hb22) (dK (XX c ar.2.1 hslt) Km)) rfl) ?_
 iterate 26 refine z_ ?_
 exact zN
 iterate 6 refine w_ ?_
 refine Qc<|QE ⟨i+1,sg2,ch2,by omega,rfl,(by exact hP.skip hx18 (VL (Qrw hlab ‹_› ‹_›))),rfl⟩ (by omega) ?_
 exact wo []
 obtain ⟨zf,hc24⟩:=gs (⟨(sg0 c.2.1.length block).toArray⟩:ByteArray) ((ar.1).toNat)
 have hsdzf:=Kg (by omega) hc24
 obtain ⟨zt,hc26⟩:=gs (⟨(sg0 c.2.1.length block).toArray⟩:ByteArray) ((ar.2.2.2).toNat)
 have hsdzt:=Kg (by omega) hc26
 cases hb27:(decide (zf=zt))
 have hb27':=a6 hb27
 apply dW [io 97 _,io 98 _,io 99 _,io 100 _,io 101 (lB false),io 102 _,io 103 _,io 104 _,io 105 _,io 106 (lB true),io 107 _,io 108 _,io 109 _,io 110 _,io 111 _,io 112 _,io 113 _,io 114 _,io 115 _,io 116 _,io 117 _,io 118 (lB false),io 119 _,io 120 _,io 121 _,io 122 _,io 123 _,io 124 _,io 125 _,io 126 _,io 127 _,io 128 _,io 129 _,io 130 _,io 131 _,io 132 _] [0,0,0,0,0,0,0,64,64,0,0,0,0,0,8192,8192,0,122880,253952,253952,122880,0,0,0,0,16777216,16777216,0,0,520093696,1056964608,1056964608,520093696,520093696,0,0]
 iterate 4 refine z_ ?_
 refine zz (fun _ h_=>day rfl (h_.k rfl) (QL (hb21) (VT (h_.v rfl) (Qu rfl) rfl)) rfl) ?_
 iterate 4 refine z_ ?_
 refine zz (fun _ h_=>day rfl (h_.k rfl) (QL (hb22) (dK (XX c ar.2.1 hslt) Km)) rfl) ?_
 iterate 11 refine z_ ?_
 refine zz (fun _ h_=>day rfl (h_.k rfl) (QL (hb27) (Qt (h_.v rfl) (h_.v rfl) rfl)) rfl) ?_
 iterate 14 refine z_ ?_
 exact zN
 iterate 6 refine w_ ?_
 refine Qc<|QE ⟨i+1,sg2,ch2,by omega,rfl,(by exact hP.skip hx18 (W7 (fun h=>absurd ((Qbp hsdzf hsdzt).2 h) ‹_›))),rfl⟩ (by omega) ?_
 exact wo []
 have hb27':=a7 hb27
 obtain ⟨v,hx29⟩:=gx sg2 ((ar.2.2.2).toNat)
 have hv:=hx29
 obtain ⟨u,hx31⟩:=gx sg2 ((ar.1).toNat)
 have hu:=hx31
 apply dW [io 97 _,io 98 _,io 99 _,io 100 _,io 101 (lB false),io 102 _,io 103 _,io 104 _,io 105 _,io 106 (lB true),io 107 _,io 108 _,io 109 _,io 110 _,io 111 _,io 112 _,io 113 _,io 114 _,io 115 _,io 116 _,io 117 _,io 118 (lB true),io 119 _,io 120 _,io 121 _,io 122 _,io 123 _,io 124 (lf (.ept 5 1 ((ar.2.2.2).toNat) 0)),io 125 (lf (.dat .u8 v)),io 126 _,io 127 _,io 128 _,io 129 (lf (.ept 5 1 ((ar.1).toNat) 0)),io 130 (lf (.dat .u8 u)),io 131 _,io 132 _] [0,0,0,0,0,0,0,64,64,0,0,0,0,0,8192,8192,0,122880,253952,253952,122880,0,0,0,0,16777216,16777216,0,0,520093696,1056964608,1056964608,520093696,520093696,0,0]
 iterate 4 refine z_ ?_
 refine zz (fun _ h_=>day rfl (h_.k rfl) (QL (hb21) (VT (h_.v rfl) (Qu rfl) rfl)) rfl) ?_
 iterate 4 refine z_ ?_
 refine zz (fun _ h_=>day rfl (h_.k rfl) (QL (hb22) (dK (XX c ar.2.1 hslt) Km)) rfl) ?_
 iterate 11 refine z_ ?_
 refine zz (fun _ h_=>day rfl (h_.k rfl) (QL (hb27) (Qt (h_.v rfl) (h_.v rfl) rfl)) rfl) ?_
 iterate 5 refine z_ ?_
 refine zz (fun _ h_=>day rfl (h_.k rfl) (QS (e:= .u8) (h_.v rfl) (h_.en 5 rfl) (h_.v rfl) ZF Zi rfl (by omega) (by first | omega | (simp only[au]; omega))) rfl)<|zz (fun _ h_=>day rfl (h_.k rfl) (Zp (e:= .u8) (h_.v rfl) (h_.n 5 rfl) hx29 rfl Zi rfl rfl) rfl) ?_
 iterate 3 refine z_ ?_
 refine zz (fun _ h_=>day rfl (h_.k rfl) (QS (e:= .u8) (h_.v rfl) (h_.en 5 rfl) (h_.v rfl) ZF Zi rfl (by omega) (by first | omega | (simp only[au]; omega))) rfl)<|zz (fun _ h_=>day rfl (h_.k rfl) (Zp (e:= .u8) (h_.v rfl) (h_.n 5 rfl) hx31 rfl Zi rfl rfl) rfl) ?_
 iterate 2 refine z_ ?_
 exact zN
 cases hb32:(!decide (v=u))
 have hb32':(v=u):=QT hb32
 iterate 6 refine w_ ?_
 refine Qc<|QE ⟨i+1,sg2,ch2,by omega,rfl,(by exact hP.skip hx18 (Qiy hu (hv.trans (congrArg some ‹_›)))),rfl⟩ (by omega) ?_
 exact wo []
 have hb32':¬(v=u):=Q0 hb32
 refine w_ ?_
 apply dV [io 133 _,io 134 _,io 135 _,io 136 _,io 137 _,io 138 _,io 139 (lf (.ept 5 1 ((ar.1).toNat) 0)),io 140 (lf (.dat .u8 u)),io 141 (lf (.ept 5 1 ((ar.2.2.2).toNat) 0)),⟨none,lf (.val undef),[(5,some (.arr 5 .u8 (sg2.set ((ar.2.2.2).toNat) u)))]⟩,io 11 _] [0,1,1,7,15,15,7,7,0,0,0]
 iterate 6 refine z_ ?_
 refine zz (fun _ h_=>ac (QS (e:= .u8) (h_.v rfl) (h_.en 5 rfl) (h_.v rfl) ZF Zi rfl (by omega) (by first | omega | (simp only[au]; omega))) rfl)<|zz (fun _ h_=>ac (Zp (e:= .u8) (h_.v rfl) (h_.n 5 rfl) hx31 rfl Zi rfl rfl) rfl)<|zz (fun _ h_=>ac (QS (e:= .u8) (h_.v rfl) (h_.en 5 rfl) (h_.v rfl) ZF Zi rfl (by omega) (by first | omega | (simp only[au]; omega))) rfl)<|zz (fun _ h_=>ac (QG (e:= .u8) (z':=u) (h_.v rfl) (h_.n 5 rfl) hx29 rfl (h_.w rfl) rfl Zi rfl rfl) rfl) ?_
 refine z_ ?_
 exact zN
 iterate 4 refine w_ ?_
 refine Qc<|QE ⟨i+1,(sg2.set ((ar.2.2.2).toNat) u),true,by omega,rfl,(by exact hP.hit hr hx18 hu hv (by have h9:=a7 (hmv.symm.trans (by assumption:mv=true)); rwa [WY hu] at h9) (by first | exact Qq4 ‹_› | exact Qms ‹_›) ((Qbp hsdzf hsdzt).1 ‹_›) ‹_›),rfl⟩ (by omega) ?_
 exact wp [] ⟨rfl,(Qh (by first | rfl | simp)),trivial⟩
 have hb21':=a7 hb21
 obtain ⟨zf,hc34⟩:=gs (⟨(sg0 c.2.1.length block).toArray⟩:ByteArray) ((ar.1).toNat)
 have hsdzf:=Kg (by omega) hc34
 obtain ⟨zt,hc36⟩:=gs (⟨(sg0 c.2.1.length block).toArray⟩:ByteArray) ((ar.2.2.2).toNat)
 have hsdzt:=Kg (by omega) hc36
 cases hb37:(decide (zf=zt))
 have hb37':=a6 hb37
 apply dW [io 97 _,io 98 _,io 99 _,io 100 _,io 101 (lB true),io 102 _,io 103 _,io 104 _,io 105 _,io 106 _,io 107 _,io 108 _,io 109 _,io 110 _,io 111 _,io 112 _,io 113 _,io 114 _,io 115 _,io 116 _,io 117 _,io 118 (lB false),io 119 _,io 120 _,io 121 _,io 122 _,io 123 _,io 124 _,io 125 _,io 126 _,io 127 _,io 128 _,io 129 _,io 130 _,io 131 _,io 132 _] [0,0,0,0,0,0,0,64,64,0,0,0,0,0,8192,8192,0,122880,253952,253952,122880,0,0,0,0,16777216,16777216,0,0,520093696,1056964608,1056964608,520093696,520093696,0,0]
 iterate 4 refine z_ ?_
 refine zz (fun _ h_=>day rfl (h_.k rfl) (QL (hb21) (VT (h_.v rfl) (Qu rfl) rfl)) rfl) ?_
 iterate 16 refine z_ ?_
 refine zz (fun _ h_=>day rfl (h_.k rfl) (QL (hb37) (Qt (h_.v rfl) (h_.v rfl) rfl)) rfl) ?_
 iterate 14 refine z_ ?_
 exact zN
 iterate 6 refine w_ ?_
 refine Qc<|QE ⟨i+1,sg2,ch2,by omega,rfl,(by exact hP.skip hx18 (W7 (fun h=>absurd ((Qbp hsdzf hsdzt).2 h) ‹_›))),rfl⟩ (by omega) ?_
 exact wo []
 have hb37':=a7 hb37
 obtain ⟨v,hx39⟩:=gx sg2 ((ar.2.2.2).toNat)
 have hv:=hx39
 obtain ⟨u,hx41⟩:=gx sg2 ((ar.1).toNat)
 have hu:=hx41
 apply dW [io 97 _,io 98 _,io 99 _,io 100 _,io 101 (lB true),io 102 _,io 103 _,io 104 _,io 105 _,io 106 _,io 107 _,io 108 _,io 109 _,io 110 _,io 111 _,io 112 _,io 113 _,io 114 _,io 115 _,io 116 _,io 117 _,io 118 (lB true),io 119 _,io 120 _,io 121 _,io 122 _,io 123 _,io 124 (lf (.ept 5 1 ((ar.2.2.2).toNat) 0)),io 125 (lf (.dat .u8 v)),io 126 _,io 127 _,io 128 _,io 129 (lf (.ept 5 1 ((ar.1).toNat) 0)),io 130 (lf (.dat .u8 u)),io 131 _,io 132 _] [0,0,0,0,0,0,0,64,64,0,0,0,0,0,8192,8192,0,122880,253952,253952,122880,0,0,0,0,16777216,16777216,0,0,520093696,1056964608,1056964608,520093696,520093696,0,0]
 iterate 4 refine z_ ?_
 refine zz (fun _ h_=>day rfl (h_.k rfl) (QL (hb21) (VT (h_.v rfl) (Qu rfl) rfl)) rfl) ?_
 iterate 16 refine z_ ?_
 refine zz (fun _ h_=>day rfl (h_.k rfl) (QL (hb37) (Qt (h_.v rfl) (h_.v rfl) rfl)) rfl) ?_
 iterate 5 refine z_ ?_
 refine zz (fun _ h_=>day rfl (h_.k rfl) (QS (e:= .u8) (h_.v rfl) (h_.en 5 rfl) (h_.v rfl) ZF Zi rfl (by omega) (by first | omega | (simp only[au]; omega))) rfl)<|zz (fun _ h_=>day rfl (h_.k rfl) (Zp (e:= .u8) (h_.v rfl) (h_.n 5 rfl) hx39 rfl Zi rfl rfl) rfl) ?_
 iterate 3 refine z_ ?_
 refine zz (fun _ h_=>day rfl (h_.k rfl) (QS (e:= .u8) (h_.v rfl) (h_.en 5 rfl) (h_.v rfl) ZF Zi rfl (by omega) (by first | omega | (simp only[au]; omega))) rfl)<|zz (fun _ h_=>day rfl (h_.k rfl) (Zp (e:= .u8) (h_.v rfl) (h_.n 5 rfl) hx41 rfl Zi rfl rfl) rfl) ?_
 iterate 2 refine z_ ?_
 exact zN
 cases hb42:(!decide (v=u))
 have hb42':(v=u):=QT hb42
 iterate 6 refine w_ ?_
 refine Qc<|QE ⟨i+1,sg2,ch2,by omega,rfl,(by exact hP.skip hx18 (Qiy hu (hv.trans (congrArg some ‹_›)))),rfl⟩ (by omega) ?_
 exact wo []
 have hb42':¬(v=u):=Q0 hb42
 refine w_ ?_
 apply dV [io 133 _,io 134 _,io 135 _,io 136 _,io 137 _,io 138 _,io 139 (lf (.ept 5 1 ((ar.1).toNat) 0)),io 140 (lf (.dat .u8 u)),io 141 (lf (.ept 5 1 ((ar.2.2.2).toNat) 0)),⟨none,lf (.val undef),[(5,some (.arr 5 .u8 (sg2.set ((ar.2.2.2).toNat) u)))]⟩,io 11 _] [0,1,1,7,15,15,7,7,0,0,0]
 iterate 6 refine z_ ?_
 refine zz (fun _ h_=>ac (QS (e:= .u8) (h_.v rfl) (h_.en 5 rfl) (h_.v rfl) ZF Zi rfl (by omega) (by first | omega | (simp only[au]; omega))) rfl)<|zz (fun _ h_=>ac (Zp (e:= .u8) (h_.v rfl) (h_.n 5 rfl) hx41 rfl Zi rfl rfl) rfl)<|zz (fun _ h_=>ac (QS (e:= .u8) (h_.v rfl) (h_.en 5 rfl) (h_.v rfl) ZF Zi rfl (by omega) (by first | omega | (simp only[au]; omega))) rfl)<|zz (fun _ h_=>ac (QG (e:= .u8) (z':=u) (h_.v rfl) (h_.n 5 rfl) hx39 rfl (h_.w rfl) rfl Zi rfl rfl) rfl) ?_
 refine z_ ?_
 exact zN
 iterate 4 refine w_ ?_
 refine Qc<|QE ⟨i+1,(sg2.set ((ar.2.2.2).toNat) u),true,by omega,rfl,(by exact hP.hit hr hx18 hu hv (by have h9:=a7 (hmv.symm.trans (by assumption:mv=true)); rwa [WY hu] at h9) (by first | exact Qq4 ‹_› | exact Qms ‹_›) ((Qbp hsdzf hsdzt).1 ‹_›) ‹_›),rfl⟩ (by omega) ?_
 exact wp [] ⟨rfl,(Qh (by first | rfl | simp)),trivial⟩
 iterate 4 refine w_ ?_
 refine AL.fact (Ql (x:= .tmp 85) (Qa rfl)) fun hi43=> ?_
 refine w_ ?_
 obtain ⟨u,hx45⟩:=gx sg2 ((ar.1).toNat)
 have hu:=hx45
 refine w_ ?_
 refine lc (Qt (Qa rfl) (QB 43 rfl) rfl) ?_
 refine w_ ?_
 cases hb46:(decide (u=43))
 have hb46':=a6 hb46
 iterate 5 refine w_ ?_
 refine lgy rfl rfl (Qt (Qa rfl) (QB 45 rfl) rfl) ?_
 iterate 3 refine w_ ?_
 refine XP (J19 _ ⟨(decide (u=45)),(by rw[WY hu]; first | exact (aI (.inl ‹_›)).symm | exact Qsq ‹_›),rfl⟩) ?_
 exact wo []
 have hb46':=a7 hb46
 iterate 9 refine w_ ?_
 refine XP (J19 _ ⟨true,(by rw[WY hu]; first | exact (aI (.inl ‹_›)).symm | exact Qsq ‹_›),rfl⟩) ?_
 exact wo []
 have hb8':=a7 hb8
 iterate 5 refine w_ ?_
 obtain ⟨ar,hx48⟩:=gx c.2.2 k
 have hain:=hr _ (a8 hx48)
 obtain ⟨⟨ha1,ha2⟩,ha3,ha4⟩:=hain
 have hlab:=(hs.arcs _ (a8 hx48)).2.2.1
 have hsn:=hs.some_
 have hslt:ar.2.1 < (c.1.length:Int):=Ud hlab
 iterate 2 refine w_ ?_
 refine lc (xal 7 QA Za) ?_
 iterate 7 refine w_ ?_
 refine AL.fact (Ql (x:= .tmp 43) (Qa rfl)) fun hi49=> ?_
 obtain ⟨zf,hc51⟩:=gs (⟨(sg0 c.2.1.length block).toArray⟩:ByteArray) ((ar.1).toNat)
 have hsdzf:=Kg (by omega) hc51
 refine w_ ?_
 refine lc (Qt (Qa rfl) (QB 48 rfl) rfl) ?_
 refine w_ ?_
 cases hb52:(decide (zf=48))
 have hb52':=a6 hb52
 iterate 14 refine w_ ?_
 refine lc (Qt (Qa rfl) (QB 49 rfl) rfl) ?_
 refine w_ ?_
 cases hb53:(decide (zf=49))
 have hb53':=a6 hb53
 iterate 14 refine w_ ?_
 refine Qc<|QE ⟨k+1,by omega,rfl,rfl⟩ (by omega) ?_
 exact wp [] ⟨rfl,(Qh (by first | exact Qa5 hx48 hsdzf hsdzt ‹_› ‹_› | exact Qa9 hx48 hsdzf hsdzt ‹_› ‹_› | exact Qbo hx48 hsdzf hsdzt ‹_› ‹_› | exact Qau hx48 hsdzf hsdzt ‹_› ‹_› | exact Qak hx48 hsdzf ‹_› ‹_›)),trivial⟩
 have hb53':=a7 hb53
 iterate 3 refine w_ ?_
 obtain ⟨zt,hc55⟩:=gs (⟨(sg0 c.2.1.length block).toArray⟩:ByteArray) ((ar.2.2.2).toNat)
 have hsdzt:=Kg (by omega) hc55
 refine w_ ?_
 refine lgy rfl rfl (Qt (Qa rfl) (QB 48 rfl) rfl) ?_
 iterate 3 refine w_ ?_
 cases hb56:(decide (zt=48))
 have hb56':=a6 hb56
 iterate 6 refine w_ ?_
 refine Qc<|QE ⟨k+1,by omega,rfl,rfl⟩ (by omega) ?_
 exact wp [] ⟨rfl,(Qh (by first | exact Qa5 hx48 hsdzf hsdzt ‹_› ‹_› | exact Qa9 hx48 hsdzf hsdzt ‹_› ‹_› | exact Qbo hx48 hsdzf hsdzt ‹_› ‹_› | exact Qau hx48 hsdzf hsdzt ‹_› ‹_› | exact Qak hx48 hsdzf ‹_› ‹_›)),trivial⟩
 have hb56':=a7 hb56
 iterate 5 refine w_ ?_
 refine AL.fact (Ql (x:= .tmp 72) (Qa rfl)) fun hi57=> ?_
 refine w_ ?_
 obtain ⟨x58,hx59⟩:=gx ((c.2.2.take k).foldl (Z8 block) (sg0 c.2.1.length block)) ((ar.2.2.2).toNat)
 refine lc (QG (e:= .u8) (z':=45) (Qa rfl) rfl hx59 rfl (Evl.ev (QB 45 rfl)) rfl Zi rfl rfl)<|Qc ?_
 iterate 4 refine w_ ?_
 refine Qc<|QE ⟨k+1,by omega,rfl,rfl⟩ (by omega) ?_
 exact wp [] ⟨rfl,(Qh (by first | exact Qa5 hx48 hsdzf hsdzt ‹_› ‹_› | exact Qa9 hx48 hsdzf hsdzt ‹_› ‹_› | exact Qbo hx48 hsdzf hsdzt ‹_› ‹_› | exact Qau hx48 hsdzf hsdzt ‹_› ‹_› | exact Qak hx48 hsdzf ‹_› ‹_›)),trivial⟩
 have hb52':=a7 hb52
 iterate 3 refine w_ ?_
 obtain ⟨zt,hc61⟩:=gs (⟨(sg0 c.2.1.length block).toArray⟩:ByteArray) ((ar.2.2.2).toNat)
 have hsdzt:=Kg (by omega) hc61
 refine w_ ?_
 refine lgy rfl rfl (Qt (Qa rfl) (QB 49 rfl) rfl) ?_
 iterate 3 refine w_ ?_
 cases hb62:(decide (zt=49))
 have hb62':=a6 hb62
 iterate 6 refine w_ ?_
 refine lc (Qt (Qa rfl) (QB 49 rfl) rfl) ?_
 refine w_ ?_
 have hb63:(decide (zf=49))=false:=az fun h_=>absurd ((a7 (hb52)).symm.trans h_) (by decide)
 have hb63':=a6 hb63
 try rw[hb63]
 iterate 14 refine w_ ?_
 refine Qc<|QE ⟨k+1,by omega,rfl,rfl⟩ (by omega) ?_
 exact wp [] ⟨rfl,(Qh (by first | exact Qa5 hx48 hsdzf hsdzt ‹_› ‹_› | exact Qa9 hx48 hsdzf hsdzt ‹_› ‹_› | exact Qbo hx48 hsdzf hsdzt ‹_› ‹_› | exact Qau hx48 hsdzf hsdzt ‹_› ‹_› | exact Qak hx48 hsdzf ‹_› ‹_›)),trivial⟩
 have hb62':=a7 hb62
 iterate 5 refine w_ ?_
 refine AL.fact (Ql (x:= .tmp 55) (Qa rfl)) fun hi64=> ?_
 refine w_ ?_
 obtain ⟨x65,hx66⟩:=gx ((c.2.2.take k).foldl (Z8 block) (sg0 c.2.1.length block)) ((ar.2.2.2).toNat)
 refine lc (QG (e:= .u8) (z':=43) (Qa rfl) rfl hx66 rfl (Evl.ev (QB 43 rfl)) rfl Zi rfl rfl)<|Qc ?_
 iterate 4 refine w_ ?_
 refine Qc<|QE ⟨k+1,by omega,rfl,rfl⟩ (by omega) ?_
 exact wp [] ⟨rfl,(Qh (by first | exact Qa5 hx48 hsdzf hsdzt ‹_› ‹_› | exact Qa9 hx48 hsdzf hsdzt ‹_› ‹_› | exact Qbo hx48 hsdzf hsdzt ‹_› ‹_› | exact Qau hx48 hsdzf hsdzt ‹_› ‹_› | exact Qak hx48 hsdzf ‹_› ‹_›)),trivial⟩
 have hb4':=a7 hb4
 iterate 15 refine w_ ?_
 refine lc (dK (Xq block (k:Int)) Qdq) ?_
 refine w_ ?_
 cases hb67:(block.any (fun y=>decide ((k:Int)=y)))
 iterate 5 refine w_ ?_
 obtain ⟨c68,hc69⟩:=gs (⟨#[48,43,49,45]⟩:ByteArray) ((0:Int).toNat)
 refine lc (Uq (Evl.str rfl) (Qa rfl) rfl Zo (by omega) hc69) ?_
 refine lc (dBs 8 (e:= .u8) Qdl) ?_
 refine lc (dA 9 QsH) ?_
 refine w_ ?_
 refine Qc ?_
 iterate 4 refine w_ ?_
 refine Qc<|QE ⟨k+1,by omega,rfl,rfl⟩ (by omega) ?_
 exact wp [(2,9)] ⟨rfl,(Qh (by first | exact Qht (QsK ‹_›) (cu hc69) | exact Qjl (Qss ‹_›) (cu hc69))),trivial⟩
 iterate 7 refine w_ ?_
 obtain ⟨c70,hc71⟩:=gs (⟨#[48,43,49,45]⟩:ByteArray) ((2:Int).toNat)
 refine lc (Uq (Evl.str rfl) (Qa rfl) rfl Zo (by omega) hc71) ?_
 refine lc (dBs 10 (e:= .u8) Qdl) ?_
 refine lc (dA 11 QsH) ?_
 refine w_ ?_
 refine Qc ?_
 iterate 4 refine w_ ?_
 refine Qc<|QE ⟨k+1,by omega,rfl,rfl⟩ (by omega) ?_
 exact wp [(2,11)] ⟨rfl,(Qh (by first | exact Qht (QsK ‹_›) (cu hc71) | exact Qjl (Qss ‹_›) (cu hc71))),trivial⟩
theorem WP (a:Int×Int×Bool×Int)(l:List Int):FC Tryz.prog 282 [(true,[dI a.1,dI a.2.1,dB a.2.2.1,dI a.2.2.2]),(false,[.dat QI l])] [] 0 (Zk (lI (if¬a.1∈l∧a.2.2.2∈l then 1 else if a.1∈l∧¬a.2.2.2∈l then 2 else (0:Int)))):=by
 refine Qy Tryz.func282 rfl rfl Tryz.ntmps282 fun O_ hO w0_ N0_ X_ h0_ f0_=> ?_
 refine AC.fact (QH (x:= .tmp 0) (i:=0) (Qf rfl) rfl) fun hi1=>AC.fact (QH (x:= .tmp 0) (i:=1) (Qf rfl) rfl) fun hi2=>AC.fact (QH (x:= .tmp 0) (i:=3) (Qf rfl) rfl) fun hi3=> ?_
 refine w_ ?_
 refine xbx 0 ?_
 iterate 8 refine w_ ?_
 refine lc (dK (Z6 l a.1) Y5) ?_
 iterate 2 refine w_ ?_
 cases hb4:(decide (a.1∈l))
 have hb4':=a6 hb4
 iterate 3 refine w_ ?_
 refine lgy rfl rfl (dK (Z6 l a.2.2.2) Y5) ?_
 iterate 3 refine w_ ?_
 cases hb5:(decide (a.2.2.2∈l))
 have hb5':=a6 hb5
 iterate 5 refine w_ ?_
 refine lc (dK (Z6 l a.1) Y5) ?_
 refine w_ ?_
 have hb6:(decide (a.1∈l))=false:=hb4
 try rw[hb6]
 iterate 15 refine w_ ?_
 subst hO
 have e7:(0:Int)=(if¬a.1∈l∧a.2.2.2∈l then 1 else if a.1∈l∧¬a.2.2.2∈l then 2 else (0:Int)):=by
  (simp_all; done)
 exact Qe (Res.one rfl (Qb rfl)) (by rw[← e7] <;> rfl) rfl
 have hb5':=a7 hb5
 iterate 5 refine w_ ?_
 subst hO
 have e8:(1:Int)=(if¬a.1∈l∧a.2.2.2∈l then 1 else if a.1∈l∧¬a.2.2.2∈l then 2 else (0:Int)):=by
  (simp_all; done)
 exact Qe (Res.one rfl (Qb rfl)) (by rw[← e8] <;> rfl) rfl
 have hb4':=a7 hb4
 iterate 12 refine w_ ?_
 refine lc (dK (Z6 l a.1) Y5) ?_
 refine w_ ?_
 have hb9:(decide (a.1∈l))=true:=hb4
 try rw[hb9]
 iterate 3 refine w_ ?_
 refine lgy rfl rfl (dK (Z6 l a.2.2.2) Y5) ?_
 iterate 4 refine w_ ?_
 cases hb10:(decide (a.2.2.2∈l))
 have hb10':=a6 hb10
 iterate 5 refine w_ ?_
 subst hO
 have e11:(2:Int)=(if¬a.1∈l∧a.2.2.2∈l then 1 else if a.1∈l∧¬a.2.2.2∈l then 2 else (0:Int)):=by
  (simp_all; done)
 exact Qe (Res.one rfl (Qb rfl)) (by rw[← e11] <;> rfl) rfl
 have hb10':=a7 hb10
 iterate 7 refine w_ ?_
 subst hO
 have e12:(0:Int)=(if¬a.1∈l∧a.2.2.2∈l then 1 else if a.1∈l∧¬a.2.2.2∈l then 2 else (0:Int)):=by
  (simp_all; done)
 exact Qe (Res.one rfl (Qb rfl)) (by rw[← e12] <;> rfl) rfl
end Go.Proofs.YtjaadeknhofhpaaGreat
