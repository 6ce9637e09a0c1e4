/- Walks over abstract states: the signs by which a block becomes a partition, both sides. -/
import Derived.Test.YtnakmhfjafecpaaGreatUb
set_option linter.unusedSimpArgs false
set_option linter.unusedVariables false
set_option linter.unusedSectionVars false
namespace Go.Proofs.YtnakmhfjafecpaaGreat
open Go.RowKit
set_option maxRecDepth 100000
set_option maxHeartbeats 4000000
def sg0 (n:Nat)(block:List Int):List UInt8:=(List.range n).map fun k:Nat=>if (k:Int)∈block then (49:UInt8) else 48
def Yo (block:List Int)(s:List UInt8)(a:DAr):List UInt8:=if¬a.1∈block∧a.2.2.2∈block then s.set a.2.2.2.toNat 43 else if a.1∈block∧¬a.2.2.2∈block then s.set a.2.2.2.toNat 45 else s
def inA (c:DSg)(a:DAr):Bool:=decide (a.2.1 < 0)||decide (((c.1[a.2.1.toNat]?).getD (ByteArray.empty,0)).2=1)
def sAt (s:List UInt8)(x:Int):UInt8:=(s[x.toNat]?).getD 0
def Z6 (c:DSg)(block:List Int)(s:List UInt8)(a:DAr):List UInt8:=if (sAt s a.1=43∨sAt s a.1=45)∧inA c a=true∧(a.1∈block↔a.2.2.2∈block) then s.set a.2.2.2.toNat (sAt s a.1) else s
def ZD (c:DSg)(block:List Int)(s:List UInt8):List UInt8:=c.2.2.foldl (Z6 c block) s
def ZR (c:DSg)(block:List Int):List UInt8:=c.2.2.foldl (Yo block) (sg0 c.2.1.length block)
def Qk9 (c:DSg)(block:List Int):List UInt8:=Zb (ZD c block) c.2.1.length (ZR c block)
def Ym (c:DSg)(block:List Int):ByteArray:=⟨(Qk9 c block).toArray⟩
structure SI (n:Nat) (block:List Int) (s:List UInt8):Prop where
  len:s.length=n
  at_:∀x:Int,0≤x→x < (n:Int)→(x∈block∧(sAt s x=49∨sAt s x=43))∨(¬x∈block∧(sAt s x=48∨sAt s x=45))
def nMk (s:List UInt8):Nat:=(s.filter fun x=>decide (x=43∨x=45)).length
def cMk (s:List UInt8):Nat:=(s.filter fun x=> !decide (x=43∨x=45)).length
section
variable {c:DSg}{as_:List DAr}{a:DAr}{block:List Int}{k i n m:Nat}{s s2 sg:List UInt8}{x y:Int}{z zf zt u v:UInt8}{ch:Bool}
theorem QoB (l:List UInt8):(⟨l.toArray⟩:ByteArray).toList=l:=by simp[ByteArray.toList_eq]
theorem Qqx {b:ByteArray}{j:Nat}(h:b[j]? =some z):b.toList[j]? =some z:=Hr (k:=j) (by simpa using h)
theorem Qeo {α:Type}{l:List α}{j:Nat}{w:α}(h:l[j]? =some w):l.set j w=l:=by
  apply List.ext_getElem?
  intro i
  by_cases e:j=i
  · subst e; rw[List.getElem?_set_self (List.getElem?_eq_some_iff.1 h).1,h]
  · rw[List.getElem?_set_ne e]
theorem Qm6 {n:Int}{l:Int×Bool}(h:Vk n l)(h1:¬l.1= -1):0≤l.1:=by
  rcases h with h | h
  · exact h.1
  · exact absurd h.1 h1
theorem WL (h:s[x.toNat]? =some z):sAt s x=z:=by unfold sAt; rw[h]; rfl
theorem QnQ (hl:s.length=n)(h0:0≤y)(h1:y < (n:Int))(h2:0≤x):sAt (s.set y.toNat z) x=if x=y then z else sAt s x:=by
  unfold sAt
  by_cases e:x=y
  · subst e; rw[List.getElem?_set_self (by omega),if_pos rfl]; rfl
  · rw[List.getElem?_set_ne (by omega),if_neg e]
theorem Qox {l:List Int}{v:Int}(h:(l.any fun y=>decide (v=y))=true):v∈l:=by simpa using h
theorem Qos {l:List Int}{v:Int}(h:(l.any fun y=>decide (v=y))=false):¬v∈l:=fun g=>by
  rw[List.any_eq_false] at h
  exact h v g (decide_eq_true rfl)
theorem US:(sg0 n block).length=n:=by simp[sg0]
theorem Qfo (h:(k:Int)∈block)(e:(49:UInt8)=z):sg0 k block++[z]=sg0 (k+1) block:=by subst e; simp[sg0,List.range_succ,h]
theorem QhO (h:¬(k:Int)∈block)(e:(48:UInt8)=z):sg0 k block++[z]=sg0 (k+1) block:=by subst e; simp[sg0,List.range_succ,h]
theorem QlF:SI n block (sg0 n block):=⟨US,fun x h0 h1=>by
  have hx:(sg0 n block)[x.toNat]? =some (if x∈block then (49:UInt8) else 48):=by
    unfold sg0
    rw[List.getElem?_map,List.getElem?_range (by omega)]
    simp only[Option.map_some]
    rw[show ((x.toNat:Nat):Int)=x by omega]
  rw[WL hx]
  by_cases h:x∈block <;> simp[h]⟩
theorem UG (h0:0≤x)(h:(⟨(sg0 n block).toArray⟩:ByteArray)[x.toNat]? =some z):(z=49∧x∈block)∨(z=48∧¬x∈block):=by
  have h2:=Qqx h
  have h3:(sg0 n block)[x.toNat]? =some z:=by rw[← h2,QoB]
  unfold sg0 at h3
  rw[List.getElem?_map] at h3
  obtain ⟨j,hj,e⟩:=Option.map_eq_some_iff.1 h3
  have hj2:=(List.getElem?_eq_some_iff.1 hj).1
  rw[List.length_range] at hj2
  rw[List.getElem?_range hj2] at hj
  cases hj
  rw[show ((x.toNat:Nat):Int)=x by omega] at e
  by_cases hb:x∈block
  · simp only[hb,if_true] at e; exact .inl ⟨e.symm,hb⟩
  · simp only[hb,if_false] at e; exact .inr ⟨e.symm,hb⟩
theorem SI.set (h:SI n block s)(h0:0≤y)(h1:y < (n:Int))(hz:(y∈block∧z=43)∨(¬y∈block∧z=45)):SI n block (s.set y.toNat z):=by
  refine ⟨by rw[List.length_set]; exact h.len,fun x k0 k1=> ?_⟩
  rw[QnQ h.len h0 h1 k0]
  by_cases e:x=y
  · subst e
    rw[if_pos rfl]
    rcases hz with ⟨g1,g2⟩ | ⟨g1,g2⟩
    · exact .inl ⟨g1, .inr g2⟩
    · exact .inr ⟨g1, .inr g2⟩
  · rw[if_neg e]; exact h.at_ x k0 k1
theorem SI.mark (h:SI n block s)(ha:InR n a):SI n block (Yo block s a):=by
  unfold Yo
  split
  · rename_i g; exact h.set ha.2.1 ha.2.2 (.inl ⟨g.2,rfl⟩)
  · split
    · rename_i g; exact h.set ha.2.1 ha.2.2 (.inr ⟨g.2,rfl⟩)
    · exact h
theorem Qch:∀{as_:List DAr} {s:List UInt8},(∀a∈as_,InR n a)→SI n block s→SI n block (as_.foldl (Yo block) s)
  | [],_,_,h=>h
  | a :: as_,s,hr,h=>by
    rw[List.foldl_cons]
    exact Qch (fun b hb=>hr b (List.mem_cons_of_mem _ hb)) (h.mark (hr a (List.mem_cons_self ..)))
theorem SI.val (h:SI n block s)(ha:InR n a)(h1:sAt s a.1=43∨sAt s a.1=45)(h2:a.1∈block↔a.2.2.2∈block):(a.2.2.2∈block∧sAt s a.1=43)∨(¬a.2.2.2∈block∧sAt s a.1=45):=by
  rcases h.at_ a.1 ha.1.1 ha.1.2 with ⟨g1,g2⟩ | ⟨g1,g2⟩
  · refine .inl ⟨h2.1 g1, ?_⟩
    rcases g2 with g2 | g2
    · rw[g2] at h1; rcases h1 with h1 | h1 <;> exact absurd h1 (by decide)
    · exact g2
  · refine .inr ⟨fun g => g1 (h2.2 g), ?_⟩
    rcases g2 with g2 | g2
    · rw[g2] at h1; rcases h1 with h1 | h1 <;> exact absurd h1 (by decide)
    · exact g2
theorem Qf9 (q:UInt8→Bool):∀{s:List UInt8} {j:Nat} {u v:UInt8},s[j]? =some u→q u=false→q v=true→((s.set j v).filter q).length=(s.filter q).length+1
  | [],j,u,v,h,_,_=>by simp at h
  | w :: s,0,u,v,h,h1,h2=>by
    simp at h; subst h
    simp[h1,h2]
  | w :: s,j+1,u,v,h,h1,h2=>by
    have ih:=Qf9 q (s:=s) (j:=j) (by simpa using h) h1 h2
    rw[List.set_cons_succ]
    by_cases e:q w=true
    · rw[List.filter_cons_of_pos e,List.filter_cons_of_pos e,List.length_cons,List.length_cons,ih]
    · rw[List.filter_cons_of_neg e,List.filter_cons_of_neg e,ih]
theorem Qex (q:UInt8→Bool):∀{s:List UInt8} {j:Nat} {u v:UInt8},s[j]? =some u→q u=true→q v=false→((s.set j v).filter q).length+1=(s.filter q).length
  | [],j,u,v,h,_,_=>by simp at h
  | w :: s,0,u,v,h,h1,h2=>by
    simp at h; subst h
    simp[h1,h2]
  | w :: s,j+1,u,v,h,h1,h2=>by
    have ih:=Qex q (s:=s) (j:=j) (by simpa using h) h1 h2
    rw[List.set_cons_succ]
    by_cases e:q w=true
    · rw[List.filter_cons_of_pos e,List.filter_cons_of_pos e,List.length_cons,List.length_cons,ih]
    · rw[List.filter_cons_of_neg e,List.filter_cons_of_neg e,ih]
theorem QcG (h:SI n block s)(ha:InR n a):SI n block (Z6 c block s a)∧(Z6 c block s a=s∨(nMk s < nMk (Z6 c block s a)∧cMk (Z6 c block s a) < cMk s)):=by
  unfold Z6
  split
  · rename_i g
    have hv:=h.val ha g.1 g.2.2
    refine ⟨h.set ha.2.1 ha.2.2 hv, ?_⟩
    have hl:=h.len
    have hg:s[a.2.2.2.toNat]? =some (sAt s a.2.2.2):=by
      unfold sAt
      rw[List.getElem?_eq_getElem (by have:=ha.2; omega)]; rfl
    by_cases e:sAt s a.2.2.2=sAt s a.1
    · exact .inl (by rw[← e]; exact Qeo hg)
    · right
      have hu:¬(sAt s a.2.2.2=43∨sAt s a.2.2.2=45):=fun hu=>by
        rcases h.at_ a.2.2.2 ha.2.1 ha.2.2 with ⟨g1,g2⟩ | ⟨g1,g2⟩ <;> rcases hv with ⟨v1,v2⟩ | ⟨v1,v2⟩
        · rcases g2 with g2 | g2
          · rw[g2] at hu; rcases hu with hu | hu <;> exact absurd hu (by decide)
          · exact e (g2.trans v2.symm)
        · exact v1 g1
        · exact g1 v1
        · rcases g2 with g2 | g2
          · rw[g2] at hu; rcases hu with hu | hu <;> exact absurd hu (by decide)
          · exact e (g2.trans v2.symm)
      constructor
      · unfold nMk
        rw[Qf9 _ hg (decide_eq_false hu) (decide_eq_true g.1)]; omega
      · unfold cMk
        have:=Qex (fun x=> !decide (x=43∨x=45)) hg (by simp only[decide_eq_false hu]; rfl) (v:=sAt s a.1) (by simp only[decide_eq_true g.1]; rfl)
        omega
  · exact ⟨h, .inl rfl⟩
theorem VW:∀{as_:List DAr} {s:List UInt8},(∀a∈as_,InR n a)→SI n block s→SI n block (as_.foldl (Z6 c block) s)∧(as_.foldl (Z6 c block) s=s∨nMk s < nMk (as_.foldl (Z6 c block) s))
  | [],_,_,h=>⟨h, .inl rfl⟩
  | a :: as_,s,hr,h=>by
    obtain ⟨h1,h2⟩:=QcG (c:=c) h (hr a (List.mem_cons_self ..))
    obtain ⟨h3,h4⟩:=VW (fun b hb=>hr b (List.mem_cons_of_mem _ hb)) h1
    refine ⟨h3, ?_⟩
    rw[List.foldl_cons]
    rcases h2 with h2 | ⟨h2,_⟩ <;> rcases h4 with h4 | h4
    · exact .inl (h4.trans h2)
    · rw[h2] at h4 ⊢; exact .inr h4
    · rw[h4]; exact .inr h2
    · exact .inr (by omega)
theorem QcP (f:List UInt8→List UInt8)(hf:∀s,SI n block s→SI n block (f s))(h:SI n block s):∀k,SI n block (Zb f k s)
  | 0=>h
  | k+1=>hf _ (QcP f hf h k)
theorem HK (hr:∀a∈c.2.2,InR c.2.1.length a):SI c.2.1.length block (ZR c block):=Qch hr QlF
theorem QeQ (hr:∀a∈c.2.2,InR c.2.1.length a)(h:SI c.2.1.length block s):SI c.2.1.length block (ZD c block s):=(VW hr h).1
theorem Qjz (hr:∀a∈c.2.2,InR c.2.1.length a):SI c.2.1.length block (Qk9 c block):=QcP _ (fun _ h=>QeQ hr h) (HK hr) _
theorem Qmc (hr:∀a∈c.2.2,InR c.2.1.length a):ZD c block (Qk9 c block)=Qk9 c block:=
  Qf5 (f:=ZD c block) (I:=SI c.2.1.length block) (m:=nMk) (fun _ h=>QeQ hr h) (fun s h=>by unfold nMk; rw[← h.len]; exact List.length_filter_le ..) (fun s h=>(VW hr h).2) (HK hr)
theorem QaX {α:Type}{f:α→α}{x:α}(h:f (Zb f k x)=Zb f k x):∀j,Zb f (k+j) x=Zb f k x
  | 0=>rfl
  | j+1=>by show f (Zb f (k+j) x)=_; rw[QaX h j,h]
theorem Qkp {α:Type}{f:α→α}{x:α}(h:f (Zb f k x)=Zb f k x)(h2:f (Zb f m x)=Zb f m x):Zb f k x=Zb f m x:=by
  rcases Nat.le_total k m with hl | hl
  · have:=QaX h (m - k); rw[show k+(m - k)=m by omega] at this; exact this.symm
  · have:=QaX h2 (k - m); rw[show m+(k - m)=k by omega] at this; exact this
theorem QnW (hr:∀a∈c.2.2,InR c.2.1.length a)(h:∃j,sg=Zb (ZD c block) j (ZR c block))(hf:ZD c block sg=sg):sg=Qk9 c block:=by
  obtain ⟨j,rfl⟩:=h
  exact Qkp hf (Qmc hr)
theorem QaN (hs:SgOk c):SignsOk c (Ym c block):=by
  have hr:∀a∈c.2.2,InR c.2.1.length a:=fun a ha=>XG (hs.arcs a ha)
  have hi:=Qjz (block:=block) hr
  refine ⟨fun x hx=> ?_, ?_,hs⟩
  · unfold Ym at hx
    rw[QoB] at hx
    obtain ⟨j,hj⟩:=List.mem_iff_getElem?.1 hx
    have hl:=(List.getElem?_eq_some_iff.1 hj).1
    have:=hi.at_ (j:Int) (by omega) (by have:=hi.len; omega)
    rw[WL (by simpa using hj)] at this
    rcases this with ⟨_,h | h⟩ | ⟨_,h | h⟩
    · exact .inr (.inr (.inl h))
    · exact .inr (.inl h)
    · exact .inl h
    · exact .inr (.inr (.inr h))
  · show (Qk9 c block).toArray.size = _
    simpa using hi.len
theorem QgX (hr:∀a∈c.2.2,InR c.2.1.length a):((c.2.2.take k).foldl (Yo block) (sg0 c.2.1.length block)).length=c.2.1.length:=(Qch (fun a ha=>hr a (List.mem_of_mem_take ha)) QlF).len
theorem QjB (hx:as_[k]? =some a)(h1:¬a.1∈block)(h2:a.2.2.2∈block):((as_.take k).foldl (Yo block) s).set a.2.2.2.toNat 43=(as_.take (k+1)).foldl (Yo block) s:=by
  rw[Za hx,List.foldl_append]; simp[Yo,h1,h2]
theorem QfZ (hx:as_[k]? =some a)(h1:a.1∈block)(h2:¬a.2.2.2∈block):((as_.take k).foldl (Yo block) s).set a.2.2.2.toNat 45=(as_.take (k+1)).foldl (Yo block) s:=by
  rw[Za hx,List.foldl_append]; simp[Yo,h1,h2]
theorem Hz (hx:as_[k]? =some a)(h:a.1∈block↔a.2.2.2∈block):(as_.take k).foldl (Yo block) s=(as_.take (k+1)).foldl (Yo block) s:=by
  rw[Za hx,List.foldl_append]
  simp only[List.foldl_cons,List.foldl_nil,Yo]
  by_cases e:a.1∈block
  · simp[e,h.1 e]
  · have : ¬ a.2.2.2 ∈ block := fun g => e (h.2 g)
    simp[e,this]
structure PI (c:DSg) (block:List Int) (sg:List UInt8) (i:Nat) (s:List UInt8) (ch:Bool):Prop where
  si:SI c.2.1.length block s
  eq:ZD c block sg=(c.2.2.drop i).foldl (Z6 c block) s
  no:ch=false→s=sg
  yes:ch=true→cMk s < cMk sg
  le:cMk s≤cMk sg
theorem PI.start (h:SI c.2.1.length block sg):PI c block sg 0 sg false:=⟨h,rfl,fun _=>rfl,(fun h=>by cases h),Nat.le_refl _⟩
theorem Qj8 (hx:as_[i]? =some a):as_.drop i=a :: as_.drop (i+1):=by
  obtain ⟨h1,h2⟩:=List.getElem?_eq_some_iff.1 hx
  rw[List.drop_eq_getElem_cons h1,h2]
theorem PI.skip (h:PI c block sg i s ch)(hx:c.2.2[i]? =some a)(hn:Z6 c block s a=s):PI c block sg (i+1) s ch:=⟨h.si,by rw[h.eq,Qj8 hx,List.foldl_cons,hn],h.no,h.yes,h.le⟩
theorem PI.hit (h:PI c block sg i s ch)(hr:∀a∈c.2.2,InR c.2.1.length a)(hx:c.2.2[i]? =some a)(h1:s[a.1.toNat]? =some u)(h2:s[a.2.2.2.toNat]? =some v)(hm:u=43∨u=45)(hi:inA c a=true)(hb:a.1∈block↔a.2.2.2∈block)(hne:¬v=u):PI c block sg (i+1) (s.set a.2.2.2.toNat u) true:=by
  have ha:=hr a (List.mem_of_getElem? hx)
  have hmv:Z6 c block s a=s.set a.2.2.2.toNat u:=by
    unfold Z6
    rw[WL h1,if_pos ⟨hm,hi,hb⟩]
  obtain ⟨k1,k2⟩:=QcG (c:=c) h.si ha
  rw[hmv] at k1 k2
  have k3:¬s.set a.2.2.2.toNat u=s:=fun e=>by
    have h3:(s.set a.2.2.2.toNat u)[a.2.2.2.toNat]? =some u:=List.getElem?_set_self (List.getElem?_eq_some_iff.1 h2).1
    rw[e,h2] at h3
    cases h3; exact hne rfl
  have k4:=(k2.resolve_left k3).2
  have:=h.le
  exact ⟨k1,by rw[h.eq,Qj8 hx,List.foldl_cons,hmv],(fun h=>by cases h),fun _=>by omega,by omega⟩
theorem PI.end_ (h:PI c block sg i s ch)(hi:c.2.2.length≤i):s=ZD c block sg:=by rw[h.eq,List.drop_eq_nil_of_le hi]; rfl
theorem QoI (h:ch=true){ch2:Bool}(hP:PI c block sg i s ch2):(if ch2=true then cMk s+1 else 0) < (if ch=true then cMk sg+1 else 0):=by
  subst h
  have h1:=hP.yes
  cases ch2 with
  | true=>have:=h1 rfl; simp; omega
  | false=>simp
theorem Uy (h1:s[a.1.toNat]? =some u)(h:¬(u=43∨u=45)):Z6 c block s a=s:=by unfold Z6; rw[WL h1,if_neg fun g=>h g.1]
theorem Qku (h:¬(sAt s a.1=43∨sAt s a.1=45)):Z6 c block s a=s:=by unfold Z6; rw[if_neg fun g=>h g.1]
theorem Qog (h:¬u=43):decide (u=45)=decide (u=43∨u=45):=by simp[h]
theorem Vu (h:¬inA c a=true):Z6 c block s a=s:=by unfold Z6; rw[if_neg fun g=>h g.2.1]
theorem WZ (h:¬(a.1∈block↔a.2.2.2∈block)):Z6 c block s a=s:=by unfold Z6; rw[if_neg fun g=>h g.2.2]
theorem Qgu (h1:s[a.1.toNat]? =some u)(h2:s[a.2.2.2.toNat]? =some u):Z6 c block s a=s:=by
  unfold Z6
  split
  · rw[WL h1]; exact Qeo h2
  · rfl
theorem QlU (h:a.2.1= -1):inA c a=true:=by unfold inA; rw[h]; rfl
theorem QjV (h:XD c a.2.1=true):inA c a=true:=by
  unfold XD at h
  simp only[Bool.and_eq_true] at h
  unfold inA
  rw[h.2,Bool.or_true]
theorem Qn0 (hc:Vk (c.1.length:Int) (a.2.1,a.2.2.1))(h1:¬a.2.1= -1)(h2:XD c a.2.1=false):¬inA c a=true:=fun h=>by
  unfold inA at h
  unfold XD at h2
  rw[Bool.or_eq_true] at h
  have h0:0≤a.2.1:=Qm6 hc h1
  rcases h with h | h
  · have:=of_decide_eq_true h; omega
  · rw[h,decide_eq_true h0] at h2; cases h2
theorem VK {c:DSg}{a:DAr}(h:Vk (c.1.length:Int) (a.2.1,a.2.2.1)):a.2.1 < (c.1.length:Int):=by
  rcases h with h | h
  · have:=h.2; simp only at this; omega
  · have:=h.1; simp only at this; omega
theorem HE (hx:as_[k]? =some a)(h1:(zf=49∧a.1∈block)∨(zf=48∧¬a.1∈block))(h2:(zt=49∧a.2.2.2∈block)∨(zt=48∧¬a.2.2.2∈block))(e1:zf=48)(e2:zt=49):((as_.take k).foldl (Yo block) s).set a.2.2.2.toNat 43=(as_.take (k+1)).foldl (Yo block) s:=by
  subst e1 e2
  exact QjB hx (h1.resolve_left fun h=>absurd h.1 (by decide)).2 (h2.resolve_right fun h=>absurd h.1 (by decide)).2
theorem Hq (hx:as_[k]? =some a)(h1:(zf=49∧a.1∈block)∨(zf=48∧¬a.1∈block))(h2:(zt=49∧a.2.2.2∈block)∨(zt=48∧¬a.2.2.2∈block))(e1:zf=49)(e2:zt=48):((as_.take k).foldl (Yo block) s).set a.2.2.2.toNat 45=(as_.take (k+1)).foldl (Yo block) s:=by
  subst e1 e2
  exact QfZ hx (h1.resolve_right fun h=>absurd h.1 (by decide)).2 (h2.resolve_left fun h=>absurd h.1 (by decide)).2
theorem Qaa (hx:as_[k]? =some a)(h1:(zf=49∧a.1∈block)∨(zf=48∧¬a.1∈block))(h2:(zt=49∧a.2.2.2∈block)∨(zt=48∧¬a.2.2.2∈block))(e1:zf=48)(e2:¬zt=49):(as_.take k).foldl (Yo block) s=(as_.take (k+1)).foldl (Yo block) s:=by
  subst e1
  have k1:=(h1.resolve_left fun h=>absurd h.1 (by decide)).2
  have k2:=(h2.resolve_left fun h=>e2 h.1).2
  exact Hz hx ⟨fun h=>absurd h k1,fun h=>absurd h k2⟩
theorem Hd (hx:as_[k]? =some a)(h1:(zf=49∧a.1∈block)∨(zf=48∧¬a.1∈block))(h2:(zt=49∧a.2.2.2∈block)∨(zt=48∧¬a.2.2.2∈block))(e1:zf=49)(e2:¬zt=48):(as_.take k).foldl (Yo block) s=(as_.take (k+1)).foldl (Yo block) s:=by
  subst e1
  have k1:=(h1.resolve_right fun h=>absurd h.1 (by decide)).2
  have k2:=(h2.resolve_right fun h=>e2 h.1).2
  exact Hz hx ⟨fun _=>k2,fun _=>k1⟩
theorem Hu (hx:as_[k]? =some a)(h1:(zf=49∧a.1∈block)∨(zf=48∧¬a.1∈block))(e1:¬zf=48)(e2:¬zf=49):(as_.take k).foldl (Yo block) s=(as_.take (k+1)).foldl (Yo block) s:=by
  rcases h1 with h | h
  · exact absurd h.1 e2
  · exact absurd h.1 e1
theorem Hn {zf zt:UInt8}(h1:(zf=49∧x∈block)∨(zf=48∧¬x∈block))(h2:(zt=49∧y∈block)∨(zt=48∧¬y∈block)):zf=zt↔(x∈block↔y∈block):=by
  rcases h1 with ⟨rfl,h1⟩ | ⟨rfl,h1⟩ <;> rcases h2 with ⟨rfl,h2⟩ | ⟨rfl,h2⟩ <;> simp[h1,h2]
end
theorem JI (c:(List (ByteArray×Int))×List ByteArray×(List (Int×Int×Bool×Int)))(block:List Int)(hs:SgOk c):FC Tryz.prog 210 [(true,[.dat (.sl 145 (.pr .str .int)) c.1, .dat (.sl 9 .str) c.2.1, .dat (.sl 179 (.pr .int (.pr .int (.pr .bool .int)))) c.2.2]),(false,[.dat (.sl 3 .int) block])] [] 0 (Zy (lf (dS (Ym c block)))):=by
 have hr:∀a∈c.2.2,InR c.2.1.length a:=fun a ha=>XG (hs.arcs a ha)
 have hc4:(⟨#[48,43,49,45]⟩:ByteArray).size=4:=rfl
 have hn3:=hs.some_
 have hs0l:=US (n:=c.2.1.length) (block:=block)
 have hsz:(⟨(sg0 c.2.1.length block).toArray⟩:ByteArray).size=c.2.1.length:=by show ((sg0 c.2.1.length block).toArray).size=_; rw[List.size_toArray,US]
 refine QQ Tryz.func210 rfl rfl Tryz.ntmps210 fun O_ hO w0_ N0_ X_ h0_ f0_=> ?_
 refine w_ ?_
 refine lc (Qr 0 (Qb rfl) rfl rfl (Fresh.of rfl) (nlr rfl)) ?_
 iterate 3 refine w_ ?_
 refine lc (Qk 1 (e:= .u8) Zc ZA Qco rfl rfl (List.all_eq_true.1 rfl) ⟨rfl,rfl⟩ (by decide) rfl rfl (Fresh.of rfl) (nlr rfl)) ?_
 iterate 6 refine w_ ?_
 refine AL.fact (QB (x:= .tmp 17) (Qa rfl)) fun hl1=> ?_
 iterate 4 refine w_ ?_
 refine Qy (fun m_ s_=>∃(k:Nat),k≤c.2.1.length∧m_=c.2.1.length - k∧s_=⟨[(1,lf (.dat (.sl 3 .int) block)),(2,lP 0 0),(4,lf (dS (⟨#[]⟩:ByteArray))),(5,lR 2),(18,lI (c.2.1.length:Int)),(19,lI (k:Int))],[(0,some (.box 59 [.dat (.sl 145 (.pr .str .int)) c.1, .dat (.sl 9 .str) c.2.1, .dat (.sl 179 (.pr .int (.pr .int (.pr .bool .int)))) c.2.2])),(2,some (.arr 5 .u8 (sg0 k block)))]⟩) ⟨0,Nat.zero_le _,rfl,rfl⟩ ?_ ?_
 · exact Wk.of [(0,0),(2,1)] rfl ⟨rfl,rfl,rfl,rfl,rfl,rfl,trivial⟩ ⟨rfl,(Qv (rfl)),trivial⟩ rfl rfl
 rintro m_ s_ ⟨k,hk2,hm3,rfl⟩
 have hsk:=US (n:=k) (block:=block)
 iterate 4 refine w_ ?_
 cases hb4:(decide ((k:Int) < (c.2.1.length:Int)))
 ·have hb4':=of_decide_eq_false hb4
  refine w_ ?_
  refine QA ?_
  refine (?_:AC _ _ _ _ _)
  refine Wz ?_
  obtain rfl:k=c.2.1.length:=by omega
  iterate 2 refine w_ ?_
  refine lc (ZS (ys:=sg0 c.2.1.length block) (Xd (Qa rfl) rfl) Zc VX Zd rfl) ?_
  iterate 6 refine w_ ?_
  refine AL.fact (QB (x:= .tmp 34) (Qa rfl)) fun hl5=> ?_
  iterate 4 refine w_ ?_
  refine Qy (fun m_ s_=>∃(k:Nat),k≤c.2.2.length∧m_=c.2.2.length - k∧s_=⟨[(2,lP 0 0),(4,lf (dS (⟨#[]⟩:ByteArray))),(5,lR 3),(8,lf (dS (⟨(sg0 c.2.1.length block).toArray⟩:ByteArray))),(34,lf (.dat (.sl 179 (.pr .int (.pr .int (.pr .bool .int)))) c.2.2)),(35,lI (c.2.2.length:Int)),(36,lI (k:Int))],[(0,some (.box 59 [.dat (.sl 145 (.pr .str .int)) c.1, .dat (.sl 9 .str) c.2.1, .dat (.sl 179 (.pr .int (.pr .int (.pr .bool .int)))) c.2.2])),(3,some (.arr 5 .u8 ((c.2.2.take k).foldl (Yo block) (sg0 c.2.1.length block))))]⟩) ⟨0,Nat.zero_le _,rfl,rfl⟩ ?_ ?_
  · exact Wk.of [(0,0),(3,2)] rfl ⟨rfl,rfl,rfl,rfl,rfl,rfl,rfl,trivial⟩ ⟨rfl,(Qv (by simp only[List.take_zero,List.foldl_nil])),trivial⟩ rfl rfl
  rintro m_ s_ ⟨k,hk6,hm7,rfl⟩
  have hmk:=QgX (block:=block) (k:=k) hr
  iterate 4 refine w_ ?_
  cases hb8:(decide ((k:Int) < (c.2.2.length:Int)))
  ·have hb8':=of_decide_eq_false hb8
   refine w_ ?_
   refine QA ?_
   refine (?_:AC _ _ _ _ _)
   iterate 5 refine w_ ?_
   refine Qy (fun m_ s_=>∃(sg:List UInt8) (ch:Bool),m_=(if ch=true then cMk sg+1 else 0)∧(∃j,sg=Zb (ZD c block) j (ZR c block))∧(SI c.2.1.length block sg)∧(ch=false→ZD c block sg=sg)∧s_=⟨[(2,lP 0 0),(4,lf (dS (⟨#[]⟩:ByteArray))),(5,lR 4),(8,lf (dS (⟨(sg0 c.2.1.length block).toArray⟩:ByteArray))),(11,lB ch)],[(0,some (.box 59 [.dat (.sl 145 (.pr .str .int)) c.1, .dat (.sl 9 .str) c.2.1, .dat (.sl 179 (.pr .int (.pr .int (.pr .bool .int)))) c.2.2])),(4,some (.arr 5 .u8 sg))]⟩) ⟨(c.2.2.take k).foldl (Yo block) (sg0 c.2.1.length block),true,rfl,⟨0,(by rw[Zh (by omega)]; rfl)⟩,(by rw[Zh (by omega)]; exact HK hr),(fun h=>by cases h),rfl⟩ ?_ ?_
   · exact Wk.of [(0,0),(4,3)] rfl ⟨rfl,rfl,rfl,rfl,rfl,trivial⟩ ⟨rfl,(Qv (by first | rfl | simp)),trivial⟩ rfl rfl
   rintro m_ s_ ⟨sg,ch,hm10,hJ,hS,hF,rfl⟩
   have hsl:=hS.len
   iterate 4 refine w_ ?_
   cases hb11:(ch)
   ·refine w_ ?_
    refine QA ?_
    refine (?_:AC _ _ _ _ _)
    iterate 2 refine w_ ?_
    refine lc (ZS (ys:=sg) (Xd (Qa rfl) rfl) Zc VX Zd rfl) ?_
    iterate 2 refine w_ ?_
    refine Qe ?_
    subst hO
    have e12:((⟨(sg).toArray⟩:ByteArray):ByteArray)=(Ym c block):=by
     (unfold Ym; rw[QnW hr hJ (hF (by assumption))])
    exact Qg (Qd rfl (Qc rfl)) ((congrArg (fun z_=>lf (dS z_)) e12)) rfl
   ·iterate 9 refine w_ ?_
    refine AL.fact (QB (x:= .tmp 77) (Qa rfl)) fun hl13=> ?_
    iterate 4 refine w_ ?_
    refine Qy (fun m_ s_=>∃(i:Nat) (sg2:List UInt8) (ch2:Bool),i≤c.2.2.length∧m_=c.2.2.length - i∧(PI c block sg i sg2 ch2)∧s_=⟨[(2,lP 0 0),(4,lf (dS (⟨#[]⟩:ByteArray))),(5,lR 5),(8,lf (dS (⟨(sg0 c.2.1.length block).toArray⟩:ByteArray))),(11,lB ch2),(75,lB true),(76,lP 0 2),(77,lf (.dat (.sl 179 (.pr .int (.pr .int (.pr .bool .int)))) c.2.2)),(78,lI (c.2.2.length:Int)),(79,lI (i:Int))],[(0,some (.box 59 [.dat (.sl 145 (.pr .str .int)) c.1, .dat (.sl 9 .str) c.2.1, .dat (.sl 179 (.pr .int (.pr .int (.pr .bool .int)))) c.2.2])),(5,some (.arr 5 .u8 sg2))]⟩) ⟨0,sg,false,Nat.zero_le _,rfl,(PI.start hS),rfl⟩ ?_ ?_
    · exact Wk.of [(0,0),(5,4)] rfl ⟨rfl,rfl,rfl,rfl,rfl,rfl,rfl,rfl,rfl,rfl,trivial⟩ ⟨rfl,rfl,trivial⟩ rfl rfl
    rintro m_ s_ ⟨i,sg2,ch2,hk14,hm15,hP,rfl⟩
    have hsl2:=hP.si.len
    iterate 4 refine w_ ?_
    cases hb16:(decide ((i:Int) < (c.2.2.length:Int)))
    ·have hb16':=of_decide_eq_false hb16
     refine w_ ?_
     refine QA<|QS ⟨sg2,ch2,rfl,(by obtain ⟨j,hj⟩:=hJ; exact ⟨j+1,(hP.end_ (by omega)).trans (by rw[hj]; rfl)⟩),hP.si,(fun h=>by have h1:=hP.no h; have h2:=hP.end_ (by omega); rw[h1] at h2 ⊢; exact h2.symm),rfl⟩ (by (rw[hm10]; exact QoI (by assumption) hP)) ?_
     exact Wk.of [(0,0),(4,5)] rfl ⟨rfl,rfl,rfl,rfl,rfl,trivial⟩ ⟨rfl,rfl,trivial⟩ rfl rfl
    ·have hb16':=of_decide_eq_true hb16
     iterate 5 refine w_ ?_
     obtain ⟨ar,hx18⟩:∃z,c.2.2[i]? =some z:=⟨_,List.getElem?_eq_getElem (by omega)⟩
     have hain:=hr _ (List.mem_of_getElem? hx18)
     obtain ⟨⟨ha1,ha2⟩,ha3,ha4⟩:=hain
     have hlab:=(hs.arcs _ (List.mem_of_getElem? hx18)).2.2.1
     have hsn:=hs.some_
     have hslt:ar.2.1 < (c.1.length:Int):=VK hlab
     refine lc (Qm (Qa rfl) (Qa rfl) Q9 QJ rfl (by omega) hx18) ?_
     refine w_ ?_
     refine lc (Qw 6 (.pr .int (.pr .int (.pr .bool .int))) Zq rfl rfl (Fresh.of rfl) (nlr rfl))<|lc (Qf (Qa rfl) rfl (Qb rfl) rfl QJ rfl) ?_
     refine w_ ?_
     refine Hy (fun s_=>∃(mv:Bool),(mv=decide (sAt sg2 ar.1=43∨sAt sg2 ar.1=45))∧s_=⟨[(2,lP 0 0),(4,lf (dS (⟨#[]⟩:ByteArray))),(5,lR 5),(8,lf (dS (⟨(sg0 c.2.1.length block).toArray⟩:ByteArray))),(11,lB ch2),(13,lP 6 0),(14,lB mv),(75,lB true),(76,lP 0 2),(77,lf (.dat (.sl 179 (.pr .int (.pr .int (.pr .bool .int)))) c.2.2)),(78,lI (c.2.2.length:Int)),(79,lI (i:Int)),(80,lB true),(81,lf (.elt (.pr .int (.pr .int (.pr .bool .int))) ar 0)),(82,ag [dI ar.1,dI ar.2.1,dB ar.2.2.1,dI ar.2.2.2])],[(0,some (.box 59 [.dat (.sl 145 (.pr .str .int)) c.1, .dat (.sl 9 .str) c.2.1, .dat (.sl 179 (.pr .int (.pr .int (.pr .bool .int)))) c.2.2])),(5,some (.arr 5 .u8 sg2)),(6,some (.box 179 [dI ar.1,dI ar.2.1,dB ar.2.2.1,dI ar.2.2.2]))]⟩) ?_ fun J19=> ?_
     ·rintro s_ ⟨mv,hmv,rfl⟩
      cases hb20:(mv)
      ·refine dw [io 97 (lB false),io 98 (lB false),io 99 (lf (.val undef)),io 100 (lf (.val undef)),io 101 (lf (.val undef)),io 102 (lf (.val undef)),io 103 (lf (.val undef)),io 104 (lf (.val undef)),io 105 (lf (.val undef)),io 106 (lf (.val undef)),io 107 (lf (.val undef)),io 108 (lB false),io 109 (lB false),io 110 (lf (.val undef)),io 111 (lf (.val undef)),io 112 (lf (.val undef)),io 113 (lf (.val undef)),io 114 (lf (.val undef)),io 115 (lf (.val undef)),io 116 (lf (.val undef)),io 117 (lf (.val undef)),io 118 (lf (.val undef)),io 119 (lB false),io 120 (lB false),io 121 (lf (.val undef)),io 122 (lf (.val undef)),io 123 (lf (.val undef)),io 124 (lf (.val undef)),io 125 (lf (.val undef)),io 126 (lf (.val undef)),io 127 (lf (.val undef)),io 128 (lf (.val undef)),io 129 (lf (.val undef)),io 130 (lf (.val undef)),io 131 (lf (.val undef)),io 132 (lB false)] [0,1,3,7,15,31,63,63,191,511,1023,2047,4095,8191,8191,24575,65535,8191,8191,270335,925695,2097151,4194303,8388607,16777215,16777215,50331647,134217727,268435455,16777215,16777215,1090519039,3774873599,8069840895,17179869183,34359738367] mixed rfl (by kernel_rfl) ⟨dxm rfl rfl,dxm rfl rfl,dxo rfl rfl rfl,dxo rfl rfl rfl,dxo rfl rfl rfl,dxo rfl rfl rfl,fun _ h_=>Yz (b:=false) rfl rfl (h_.k rfl) rfl rfl,fun _ h_=>Yz (b:=false) rfl rfl (h_.k rfl) rfl rfl,fun _ h_=>Yz (b:=false) rfl rfl (h_.k rfl) rfl rfl,fun _ h_=>Yz (b:=false) rfl rfl (h_.k rfl) rfl rfl,dxo rfl rfl rfl,fun _ h_=>ac (QM (h_.v rfl) (Evl.ev QU) rfl) rfl,dxm rfl rfl,dxo rfl rfl rfl,dxo rfl rfl rfl,dxo rfl rfl rfl,dxo rfl rfl rfl,dxo rfl rfl rfl,dxo rfl rfl rfl,dxo rfl rfl rfl,dxo rfl rfl rfl,dxo rfl rfl rfl,fun _ h_=>ac (QM (h_.v rfl) (Evl.ev QU) rfl) rfl,dxm rfl rfl,dxo rfl rfl rfl,dxo rfl rfl rfl,dxo rfl rfl rfl,dxo rfl rfl rfl,dxo rfl rfl rfl,dxo rfl rfl rfl,dxo rfl rfl rfl,dxo rfl rfl rfl,dxo rfl rfl rfl,dxo rfl rfl rfl,dxo rfl rfl rfl,fun _ h_=>ac (QM (h_.v rfl) (Evl.ev QU) rfl) rfl,⟨⟩⟩ ?_
       refine w_ ?_
       refine AC.skip ?_
       refine (?_:AC _ _ _ _ _)
       iterate 3 refine w_ ?_
       refine Qj<|QS ⟨i+1,sg2,ch2,by omega,rfl,(by exact hP.skip hx18 (Qku (of_decide_eq_false (hmv.symm.trans (by assumption:mv=false))))),rfl⟩ (by omega) ?_
       exact Wk.of [(0,0),(5,5)] rfl ⟨rfl,rfl,rfl,rfl,rfl,rfl,rfl,rfl,rfl,rfl,trivial⟩ ⟨rfl,rfl,trivial⟩ rfl rfl
      ·cases hb21:(decide (ar.2.1=(-1)))
       ·have hb21':=of_decide_eq_false hb21
        cases hb22:(XD c ar.2.1)
        ·refine dw [io 97 (lB true),io 98 (lB true),io 99 (lP 6 1),io 100 (lI ar.2.1),io 101 (lB false),io 102 (lB false),io 103 (ag [.dat (.sl 145 (.pr .str .int)) c.1, .dat (.sl 9 .str) c.2.1, .dat (.sl 179 (.pr .int (.pr .int (.pr .bool .int)))) c.2.2]),io 104 (lP 6 1),io 105 (lI ar.2.1),io 106 (lB false),io 107 (lB false),io 108 (lB false),io 109 (lB false),io 110 (lf (.val undef)),io 111 (lf (.val undef)),io 112 (lf (.val undef)),io 113 (lf (.val undef)),io 114 (lf (.val undef)),io 115 (lf (.val undef)),io 116 (lf (.val undef)),io 117 (lf (.val undef)),io 118 (lf (.val undef)),io 119 (lB false),io 120 (lB false),io 121 (lf (.val undef)),io 122 (lf (.val undef)),io 123 (lf (.val undef)),io 124 (lf (.val undef)),io 125 (lf (.val undef)),io 126 (lf (.val undef)),io 127 (lf (.val undef)),io 128 (lf (.val undef)),io 129 (lf (.val undef)),io 130 (lf (.val undef)),io 131 (lf (.val undef)),io 132 (lB false)] [0,1,3,7,15,31,63,63,191,511,1023,2047,4095,8191,8191,24575,65535,8191,8191,270335,925695,2097151,4194303,8388607,16777215,16777215,50331647,134217727,268435455,16777215,16777215,1090519039,3774873599,8069840895,17179869183,34359738367] mixed rfl (by kernel_rfl) ⟨dxm rfl rfl,dxm rfl rfl,fun _ h_=>day rfl (h_.k rfl) (Qz (h_.v rfl) ZN (by rw[(h_.en 6 rfl)]; rfl) rfl) rfl,fun _ h_=>day rfl (h_.k rfl) (QI (h_.v rfl) (h_.n 6 rfl) QD rfl rfl) rfl,fun _ h_=>day rfl (h_.k rfl) (QZ (hb21) (Ws (h_.v rfl) (QE rfl) rfl)) rfl,fun _ h_=>day rfl (h_.k rfl) (QF (h_.k rfl) rfl) rfl,fun _ h_=>day rfl (h_.k rfl) (Z5 (h_.v rfl) (h_.n 0 rfl) QK rfl rfl) rfl,fun _ h_=>day rfl (h_.k rfl) (Qz (h_.v rfl) ZN (by rw[(h_.en 6 rfl)]; rfl) rfl) rfl,fun _ h_=>day rfl (h_.k rfl) (QI (h_.v rfl) (h_.n 6 rfl) QD rfl rfl) rfl,fun _ h_=>day rfl (h_.k rfl) (QZ (hb22) (Qh (XT c ar.2.1 hslt) UL ⟨_,_,rfl,(h_.w rfl),⟨_,_,rfl,(h_.w rfl),rfl⟩⟩ rfl rfl)) rfl,fun _ h_=>day rfl (h_.k rfl) (QM (h_.v rfl) (h_.w rfl) rfl) rfl,fun _ h_=>ac (QV (h_.v rfl) (h_.w rfl) rfl) rfl,dxm rfl rfl,dxo rfl rfl rfl,dxo rfl rfl rfl,dxo rfl rfl rfl,dxo rfl rfl rfl,dxo rfl rfl rfl,dxo rfl rfl rfl,dxo rfl rfl rfl,dxo rfl rfl rfl,dxo rfl rfl rfl,fun _ h_=>ac (QM (h_.v rfl) (Evl.ev QU) rfl) rfl,dxm rfl rfl,dxo rfl rfl rfl,dxo rfl rfl rfl,dxo rfl rfl rfl,dxo rfl rfl rfl,dxo rfl rfl rfl,dxo rfl rfl rfl,dxo rfl rfl rfl,dxo rfl rfl rfl,dxo rfl rfl rfl,dxo rfl rfl rfl,dxo rfl rfl rfl,fun _ h_=>ac (QM (h_.v rfl) (Evl.ev QU) rfl) rfl,⟨⟩⟩ ?_
         refine w_ ?_
         refine AC.skip ?_
         refine (?_:AC _ _ _ _ _)
         iterate 3 refine w_ ?_
         refine Qj<|QS ⟨i+1,sg2,ch2,by omega,rfl,(by exact hP.skip hx18 (Vu (Qn0 hlab (by assumption) (by assumption)))),rfl⟩ (by omega) ?_
         exact Wk.of [(0,0),(5,5)] rfl ⟨rfl,rfl,rfl,rfl,rfl,rfl,rfl,rfl,rfl,rfl,trivial⟩ ⟨rfl,rfl,trivial⟩ rfl rfl
        ·obtain ⟨zf,hc24⟩:∃z,(⟨(sg0 c.2.1.length block).toArray⟩:ByteArray)[(ar.1).toNat]? =some z:=⟨_,getElem?_pos _ _ (by omega)⟩
         have hsdzf:=UG (by omega) hc24
         obtain ⟨zt,hc26⟩:∃z,(⟨(sg0 c.2.1.length block).toArray⟩:ByteArray)[(ar.2.2.2).toNat]? =some z:=⟨_,getElem?_pos _ _ (by omega)⟩
         have hsdzt:=UG (by omega) hc26
         cases hb27:(decide (zf=zt))
         ·have hb27':=of_decide_eq_false hb27
          refine dw [io 97 (lB true),io 98 (lB true),io 99 (lP 6 1),io 100 (lI ar.2.1),io 101 (lB false),io 102 (lB false),io 103 (ag [.dat (.sl 145 (.pr .str .int)) c.1, .dat (.sl 9 .str) c.2.1, .dat (.sl 179 (.pr .int (.pr .int (.pr .bool .int)))) c.2.2]),io 104 (lP 6 1),io 105 (lI ar.2.1),io 106 (lB true),io 107 (lB true),io 108 (lB true),io 109 (lB true),io 110 (lf (dS (⟨(sg0 c.2.1.length block).toArray⟩:ByteArray))),io 111 (lP 6 0),io 112 (lI ar.1),io 113 (lf (.dat .u8 zf)),io 114 (lf (dS (⟨(sg0 c.2.1.length block).toArray⟩:ByteArray))),io 115 (lP 6 3),io 116 (lI ar.2.2.2),io 117 (lf (.dat .u8 zt)),io 118 (lB false),io 119 (lB false),io 120 (lB false),io 121 (lf (.val undef)),io 122 (lf (.val undef)),io 123 (lf (.val undef)),io 124 (lf (.val undef)),io 125 (lf (.val undef)),io 126 (lf (.val undef)),io 127 (lf (.val undef)),io 128 (lf (.val undef)),io 129 (lf (.val undef)),io 130 (lf (.val undef)),io 131 (lf (.val undef)),io 132 (lB false)] [0,1,3,7,15,31,63,63,191,511,1023,2047,4095,8191,8191,24575,65535,8191,8191,270335,925695,2097151,4194303,8388607,16777215,16777215,50331647,134217727,268435455,16777215,16777215,1090519039,3774873599,8069840895,17179869183,34359738367] mixed rfl (by kernel_rfl) ⟨dxm rfl rfl,dxm rfl rfl,fun _ h_=>day rfl (h_.k rfl) (Qz (h_.v rfl) ZN (by rw[(h_.en 6 rfl)]; rfl) rfl) rfl,fun _ h_=>day rfl (h_.k rfl) (QI (h_.v rfl) (h_.n 6 rfl) QD rfl rfl) rfl,fun _ h_=>day rfl (h_.k rfl) (QZ (hb21) (Ws (h_.v rfl) (QE rfl) rfl)) rfl,fun _ h_=>day rfl (h_.k rfl) (QF (h_.k rfl) rfl) rfl,fun _ h_=>day rfl (h_.k rfl) (Z5 (h_.v rfl) (h_.n 0 rfl) QK rfl rfl) rfl,fun _ h_=>day rfl (h_.k rfl) (Qz (h_.v rfl) ZN (by rw[(h_.en 6 rfl)]; rfl) rfl) rfl,fun _ h_=>day rfl (h_.k rfl) (QI (h_.v rfl) (h_.n 6 rfl) QD rfl rfl) rfl,fun _ h_=>day rfl (h_.k rfl) (QZ (hb22) (Qh (XT c ar.2.1 hslt) UL ⟨_,_,rfl,(h_.w rfl),⟨_,_,rfl,(h_.w rfl),rfl⟩⟩ rfl rfl)) rfl,fun _ h_=>day rfl (h_.k rfl) (QM (h_.v rfl) (h_.w rfl) rfl) rfl,fun _ h_=>ac (QV (h_.v rfl) (h_.w rfl) rfl) rfl,dxm rfl rfl,fun _ h_=>day rfl (h_.k rfl) (QF (h_.k rfl) rfl) rfl,fun _ h_=>day rfl (h_.k rfl) (Qz (h_.v rfl) Zr (by rw[(h_.en 6 rfl)]; rfl) rfl) rfl,fun _ h_=>day rfl (h_.k rfl) (QI (h_.v rfl) (h_.n 6 rfl) QD rfl rfl) rfl,fun _ h_=>day rfl (h_.k rfl) (QH (h_.v rfl) (h_.v rfl) rfl Zd (by omega) hc24) rfl,fun _ h_=>day rfl (h_.k rfl) (QF (h_.k rfl) rfl) rfl,fun _ h_=>day rfl (h_.k rfl) (Qz (h_.v rfl) Zg (by rw[(h_.en 6 rfl)]; rfl) rfl) rfl,fun _ h_=>day rfl (h_.k rfl) (QI (h_.v rfl) (h_.n 6 rfl) QD rfl rfl) rfl,fun _ h_=>day rfl (h_.k rfl) (QH (h_.v rfl) (h_.v rfl) rfl Zd (by omega) hc26) rfl,fun _ h_=>day rfl (h_.k rfl) (QZ (hb27) (QG (h_.v rfl) (h_.v rfl) rfl)) rfl,fun _ h_=>ac (QV (h_.v rfl) (h_.w rfl) rfl) rfl,dxm rfl rfl,dxo rfl rfl rfl,dxo rfl rfl rfl,dxo rfl rfl rfl,dxo rfl rfl rfl,dxo rfl rfl rfl,dxo rfl rfl rfl,dxo rfl rfl rfl,dxo rfl rfl rfl,dxo rfl rfl rfl,dxo rfl rfl rfl,dxo rfl rfl rfl,fun _ h_=>ac (QM (h_.v rfl) (Evl.ev QU) rfl) rfl,⟨⟩⟩ ?_
          refine w_ ?_
          refine AC.skip ?_
          refine (?_:AC _ _ _ _ _)
          iterate 3 refine w_ ?_
          refine Qj<|QS ⟨i+1,sg2,ch2,by omega,rfl,(by exact hP.skip hx18 (WZ (fun h=>absurd ((Hn hsdzf hsdzt).2 h) (by assumption)))),rfl⟩ (by omega) ?_
          exact Wk.of [(0,0),(5,5)] rfl ⟨rfl,rfl,rfl,rfl,rfl,rfl,rfl,rfl,rfl,rfl,trivial⟩ ⟨rfl,rfl,trivial⟩ rfl rfl
         ·have hb27':=of_decide_eq_true hb27
          obtain ⟨v,hx29⟩:∃z,sg2[(ar.2.2.2).toNat]? =some z:=⟨_,List.getElem?_eq_getElem (by omega)⟩
          have hv:=hx29
          obtain ⟨u,hx31⟩:∃z,sg2[(ar.1).toNat]? =some z:=⟨_,List.getElem?_eq_getElem (by omega)⟩
          have hu:=hx31
          refine dw [io 97 (lB true),io 98 (lB true),io 99 (lP 6 1),io 100 (lI ar.2.1),io 101 (lB false),io 102 (lB false),io 103 (ag [.dat (.sl 145 (.pr .str .int)) c.1, .dat (.sl 9 .str) c.2.1, .dat (.sl 179 (.pr .int (.pr .int (.pr .bool .int)))) c.2.2]),io 104 (lP 6 1),io 105 (lI ar.2.1),io 106 (lB true),io 107 (lB true),io 108 (lB true),io 109 (lB true),io 110 (lf (dS (⟨(sg0 c.2.1.length block).toArray⟩:ByteArray))),io 111 (lP 6 0),io 112 (lI ar.1),io 113 (lf (.dat .u8 zf)),io 114 (lf (dS (⟨(sg0 c.2.1.length block).toArray⟩:ByteArray))),io 115 (lP 6 3),io 116 (lI ar.2.2.2),io 117 (lf (.dat .u8 zt)),io 118 (lB true),io 119 (lB true),io 120 (lB true),io 121 (lR 5),io 122 (lP 6 3),io 123 (lI ar.2.2.2),io 124 (lf (.ept 5 1 ((ar.2.2.2).toNat) 0)),io 125 (lf (.dat .u8 v)),io 126 (lR 5),io 127 (lP 6 0),io 128 (lI ar.1),io 129 (lf (.ept 5 1 ((ar.1).toNat) 0)),io 130 (lf (.dat .u8 u)),io 131 (lB (!decide (v=u))),io 132 (lB (!decide (v=u)))] [0,1,3,7,15,31,63,63,191,511,1023,2047,4095,8191,8191,24575,65535,8191,8191,270335,925695,2097151,4194303,8388607,16777215,16777215,50331647,134217727,268435455,16777215,16777215,1090519039,3774873599,8069840895,17179869183,34359738367] mixed rfl (by kernel_rfl) ⟨dxm rfl rfl,dxm rfl rfl,fun _ h_=>day rfl (h_.k rfl) (Qz (h_.v rfl) ZN (by rw[(h_.en 6 rfl)]; rfl) rfl) rfl,fun _ h_=>day rfl (h_.k rfl) (QI (h_.v rfl) (h_.n 6 rfl) QD rfl rfl) rfl,fun _ h_=>day rfl (h_.k rfl) (QZ (hb21) (Ws (h_.v rfl) (QE rfl) rfl)) rfl,fun _ h_=>day rfl (h_.k rfl) (QF (h_.k rfl) rfl) rfl,fun _ h_=>day rfl (h_.k rfl) (Z5 (h_.v rfl) (h_.n 0 rfl) QK rfl rfl) rfl,fun _ h_=>day rfl (h_.k rfl) (Qz (h_.v rfl) ZN (by rw[(h_.en 6 rfl)]; rfl) rfl) rfl,fun _ h_=>day rfl (h_.k rfl) (QI (h_.v rfl) (h_.n 6 rfl) QD rfl rfl) rfl,fun _ h_=>day rfl (h_.k rfl) (QZ (hb22) (Qh (XT c ar.2.1 hslt) UL ⟨_,_,rfl,(h_.w rfl),⟨_,_,rfl,(h_.w rfl),rfl⟩⟩ rfl rfl)) rfl,fun _ h_=>day rfl (h_.k rfl) (QM (h_.v rfl) (h_.w rfl) rfl) rfl,fun _ h_=>ac (QV (h_.v rfl) (h_.w rfl) rfl) rfl,dxm rfl rfl,fun _ h_=>day rfl (h_.k rfl) (QF (h_.k rfl) rfl) rfl,fun _ h_=>day rfl (h_.k rfl) (Qz (h_.v rfl) Zr (by rw[(h_.en 6 rfl)]; rfl) rfl) rfl,fun _ h_=>day rfl (h_.k rfl) (QI (h_.v rfl) (h_.n 6 rfl) QD rfl rfl) rfl,fun _ h_=>day rfl (h_.k rfl) (QH (h_.v rfl) (h_.v rfl) rfl Zd (by omega) hc24) rfl,fun _ h_=>day rfl (h_.k rfl) (QF (h_.k rfl) rfl) rfl,fun _ h_=>day rfl (h_.k rfl) (Qz (h_.v rfl) Zg (by rw[(h_.en 6 rfl)]; rfl) rfl) rfl,fun _ h_=>day rfl (h_.k rfl) (QI (h_.v rfl) (h_.n 6 rfl) QD rfl rfl) rfl,fun _ h_=>day rfl (h_.k rfl) (QH (h_.v rfl) (h_.v rfl) rfl Zd (by omega) hc26) rfl,fun _ h_=>day rfl (h_.k rfl) (QZ (hb27) (QG (h_.v rfl) (h_.v rfl) rfl)) rfl,fun _ h_=>ac (QV (h_.v rfl) (h_.w rfl) rfl) rfl,dxm rfl rfl,fun _ h_=>day rfl (h_.k rfl) (QF (h_.k rfl) rfl) rfl,fun _ h_=>day rfl (h_.k rfl) (Qz (h_.v rfl) Zg (by rw[(h_.en 6 rfl)]; rfl) rfl) rfl,fun _ h_=>day rfl (h_.k rfl) (QI (h_.v rfl) (h_.n 6 rfl) QD rfl rfl) rfl,fun _ h_=>day rfl (h_.k rfl) (Qq (e:= .u8) (h_.v rfl) (h_.en 5 rfl) (h_.v rfl) Zc ZA rfl (by omega) (by first | omega | (simp only[List.length_set]; omega))) rfl,fun _ h_=>day rfl (h_.k rfl) (Q7 (e:= .u8) (h_.v rfl) (h_.n 5 rfl) hx29 rfl ZA rfl rfl) rfl,fun _ h_=>day rfl (h_.k rfl) (QF (h_.k rfl) rfl) rfl,fun _ h_=>day rfl (h_.k rfl) (Qz (h_.v rfl) Zr (by rw[(h_.en 6 rfl)]; rfl) rfl) rfl,fun _ h_=>day rfl (h_.k rfl) (QI (h_.v rfl) (h_.n 6 rfl) QD rfl rfl) rfl,fun _ h_=>day rfl (h_.k rfl) (Qq (e:= .u8) (h_.v rfl) (h_.en 5 rfl) (h_.v rfl) Zc ZA rfl (by omega) (by first | omega | (simp only[List.length_set]; omega))) rfl,fun _ h_=>day rfl (h_.k rfl) (Q7 (e:= .u8) (h_.v rfl) (h_.n 5 rfl) hx31 rfl ZA rfl rfl) rfl,fun _ h_=>day rfl (h_.k rfl) (Yb (h_.v rfl) (h_.v rfl) rfl) rfl,fun _ h_=>ac (QV (h_.v rfl) (h_.w rfl) rfl) rfl,⟨⟩⟩ ?_
          cases hb32:(!decide (v=u))
          ·have hb32':(v=u):=Ze hb32
           refine w_ ?_
           refine AC.skip ?_
           refine (?_:AC _ _ _ _ _)
           iterate 3 refine w_ ?_
           refine Qj<|QS ⟨i+1,sg2,ch2,by omega,rfl,(by exact hP.skip hx18 (Qgu hu (hv.trans (congrArg some (by assumption))))),rfl⟩ (by omega) ?_
           exact Wk.of [(0,0),(5,5)] rfl ⟨rfl,rfl,rfl,rfl,rfl,rfl,rfl,rfl,rfl,rfl,trivial⟩ ⟨rfl,rfl,trivial⟩ rfl rfl
          ·have hb32':¬(v=u):=Zp hb32
           refine w_ ?_
           refine dv [io 133 (lR 5),io 134 (lP 6 3),io 135 (lI ar.2.2.2),io 136 (lR 5),io 137 (lP 6 0),io 138 (lI ar.1),io 139 (lf (.ept 5 1 ((ar.1).toNat) 0)),io 140 (lf (.dat .u8 u)),io 141 (lf (.ept 5 1 ((ar.2.2.2).toNat) 0)),⟨none,lf (.val undef),[(5,some (.arr 5 .u8 (sg2.set ((ar.2.2.2).toNat) u)))]⟩,io 11 (lB true)] [0,0,2,0,0,16,56,120,255,511,1023] mixed rfl (by kernel_rfl) ⟨dxm rfl rfl,dxf Zg rfl rfl rfl,dxl QD rfl rfl rfl rfl rfl,dxm rfl rfl,dxf Zr rfl rfl rfl,dxl QD rfl rfl rfl rfl rfl,fun _ h_=>ac (Qq (e:= .u8) (h_.v rfl) (h_.en 5 rfl) (h_.v rfl) Zc ZA rfl (by omega) (by first | omega | (simp only[List.length_set]; omega))) rfl,fun _ h_=>ac (Q7 (e:= .u8) (h_.v rfl) (h_.n 5 rfl) hx31 rfl ZA rfl rfl) rfl,fun _ h_=>ac (Qq (e:= .u8) (h_.v rfl) (h_.en 5 rfl) (h_.v rfl) Zc ZA rfl (by omega) (by first | omega | (simp only[List.length_set]; omega))) rfl,fun _ h_=>ac (Q5 (e:= .u8) (z':=u) (h_.v rfl) (h_.n 5 rfl) hx29 rfl (h_.w rfl) rfl ZA rfl rfl) rfl,fun _ h_=>ac (Y6 QU rfl) rfl,⟨⟩⟩ ?_
           refine (?_:AC _ _ _ _ _)
           iterate 3 refine w_ ?_
           refine Qj<|QS ⟨i+1,(sg2.set ((ar.2.2.2).toNat) u),true,by omega,rfl,(by exact hP.hit hr hx18 hu hv (by have h9:=of_decide_eq_true (hmv.symm.trans (by assumption:mv=true)); rwa [WL hu] at h9) (by first | exact QlU (by assumption) | exact QjV (by assumption)) ((Hn hsdzf hsdzt).1 (by assumption)) (by assumption)),rfl⟩ (by omega) ?_
           exact Wk.of [(0,0),(5,5)] rfl ⟨rfl,rfl,rfl,rfl,rfl,rfl,rfl,rfl,rfl,rfl,trivial⟩ ⟨rfl,(Qv (by first | rfl | simp)),trivial⟩ rfl rfl
       ·have hb21':=of_decide_eq_true hb21
        obtain ⟨zf,hc34⟩:∃z,(⟨(sg0 c.2.1.length block).toArray⟩:ByteArray)[(ar.1).toNat]? =some z:=⟨_,getElem?_pos _ _ (by omega)⟩
        have hsdzf:=UG (by omega) hc34
        obtain ⟨zt,hc36⟩:∃z,(⟨(sg0 c.2.1.length block).toArray⟩:ByteArray)[(ar.2.2.2).toNat]? =some z:=⟨_,getElem?_pos _ _ (by omega)⟩
        have hsdzt:=UG (by omega) hc36
        cases hb37:(decide (zf=zt))
        ·have hb37':=of_decide_eq_false hb37
         refine dw [io 97 (lB true),io 98 (lB true),io 99 (lP 6 1),io 100 (lI ar.2.1),io 101 (lB true),io 102 (lB true),io 103 (lf (.val undef)),io 104 (lf (.val undef)),io 105 (lf (.val undef)),io 106 (lf (.val undef)),io 107 (lB true),io 108 (lB true),io 109 (lB true),io 110 (lf (dS (⟨(sg0 c.2.1.length block).toArray⟩:ByteArray))),io 111 (lP 6 0),io 112 (lI ar.1),io 113 (lf (.dat .u8 zf)),io 114 (lf (dS (⟨(sg0 c.2.1.length block).toArray⟩:ByteArray))),io 115 (lP 6 3),io 116 (lI ar.2.2.2),io 117 (lf (.dat .u8 zt)),io 118 (lB false),io 119 (lB false),io 120 (lB false),io 121 (lf (.val undef)),io 122 (lf (.val undef)),io 123 (lf (.val undef)),io 124 (lf (.val undef)),io 125 (lf (.val undef)),io 126 (lf (.val undef)),io 127 (lf (.val undef)),io 128 (lf (.val undef)),io 129 (lf (.val undef)),io 130 (lf (.val undef)),io 131 (lf (.val undef)),io 132 (lB false)] [0,1,3,7,15,31,63,63,191,511,1023,2047,4095,8191,8191,24575,65535,8191,8191,270335,925695,2097151,4194303,8388607,16777215,16777215,50331647,134217727,268435455,16777215,16777215,1090519039,3774873599,8069840895,17179869183,34359738367] mixed rfl (by kernel_rfl) ⟨dxm rfl rfl,dxm rfl rfl,fun _ h_=>day rfl (h_.k rfl) (Qz (h_.v rfl) ZN (by rw[(h_.en 6 rfl)]; rfl) rfl) rfl,fun _ h_=>day rfl (h_.k rfl) (QI (h_.v rfl) (h_.n 6 rfl) QD rfl rfl) rfl,fun _ h_=>day rfl (h_.k rfl) (QZ (hb21) (Ws (h_.v rfl) (QE rfl) rfl)) rfl,fun _ h_=>day rfl (h_.k rfl) (QF (h_.k rfl) rfl) rfl,dxo rfl rfl rfl,dxo rfl rfl rfl,dxo rfl rfl rfl,dxo rfl rfl rfl,fun _ h_=>day rfl (h_.k rfl) (QV (h_.v rfl) (Evl.ev QU) rfl) rfl,fun _ h_=>ac (QV (h_.v rfl) (h_.w rfl) rfl) rfl,dxm rfl rfl,fun _ h_=>day rfl (h_.k rfl) (QF (h_.k rfl) rfl) rfl,fun _ h_=>day rfl (h_.k rfl) (Qz (h_.v rfl) Zr (by rw[(h_.en 6 rfl)]; rfl) rfl) rfl,fun _ h_=>day rfl (h_.k rfl) (QI (h_.v rfl) (h_.n 6 rfl) QD rfl rfl) rfl,fun _ h_=>day rfl (h_.k rfl) (QH (h_.v rfl) (h_.v rfl) rfl Zd (by omega) hc34) rfl,fun _ h_=>day rfl (h_.k rfl) (QF (h_.k rfl) rfl) rfl,fun _ h_=>day rfl (h_.k rfl) (Qz (h_.v rfl) Zg (by rw[(h_.en 6 rfl)]; rfl) rfl) rfl,fun _ h_=>day rfl (h_.k rfl) (QI (h_.v rfl) (h_.n 6 rfl) QD rfl rfl) rfl,fun _ h_=>day rfl (h_.k rfl) (QH (h_.v rfl) (h_.v rfl) rfl Zd (by omega) hc36) rfl,fun _ h_=>day rfl (h_.k rfl) (QZ (hb37) (QG (h_.v rfl) (h_.v rfl) rfl)) rfl,fun _ h_=>ac (QV (h_.v rfl) (h_.w rfl) rfl) rfl,dxm rfl rfl,dxo rfl rfl rfl,dxo rfl rfl rfl,dxo rfl rfl rfl,dxo rfl rfl rfl,dxo rfl rfl rfl,dxo rfl rfl rfl,dxo rfl rfl rfl,dxo rfl rfl rfl,dxo rfl rfl rfl,dxo rfl rfl rfl,dxo rfl rfl rfl,fun _ h_=>ac (QM (h_.v rfl) (Evl.ev QU) rfl) rfl,⟨⟩⟩ ?_
         refine w_ ?_
         refine AC.skip ?_
         refine (?_:AC _ _ _ _ _)
         iterate 3 refine w_ ?_
         refine Qj<|QS ⟨i+1,sg2,ch2,by omega,rfl,(by exact hP.skip hx18 (WZ (fun h=>absurd ((Hn hsdzf hsdzt).2 h) (by assumption)))),rfl⟩ (by omega) ?_
         exact Wk.of [(0,0),(5,5)] rfl ⟨rfl,rfl,rfl,rfl,rfl,rfl,rfl,rfl,rfl,rfl,trivial⟩ ⟨rfl,rfl,trivial⟩ rfl rfl
        ·have hb37':=of_decide_eq_true hb37
         obtain ⟨v,hx39⟩:∃z,sg2[(ar.2.2.2).toNat]? =some z:=⟨_,List.getElem?_eq_getElem (by omega)⟩
         have hv:=hx39
         obtain ⟨u,hx41⟩:∃z,sg2[(ar.1).toNat]? =some z:=⟨_,List.getElem?_eq_getElem (by omega)⟩
         have hu:=hx41
         refine dw [io 97 (lB true),io 98 (lB true),io 99 (lP 6 1),io 100 (lI ar.2.1),io 101 (lB true),io 102 (lB true),io 103 (lf (.val undef)),io 104 (lf (.val undef)),io 105 (lf (.val undef)),io 106 (lf (.val undef)),io 107 (lB true),io 108 (lB true),io 109 (lB true),io 110 (lf (dS (⟨(sg0 c.2.1.length block).toArray⟩:ByteArray))),io 111 (lP 6 0),io 112 (lI ar.1),io 113 (lf (.dat .u8 zf)),io 114 (lf (dS (⟨(sg0 c.2.1.length block).toArray⟩:ByteArray))),io 115 (lP 6 3),io 116 (lI ar.2.2.2),io 117 (lf (.dat .u8 zt)),io 118 (lB true),io 119 (lB true),io 120 (lB true),io 121 (lR 5),io 122 (lP 6 3),io 123 (lI ar.2.2.2),io 124 (lf (.ept 5 1 ((ar.2.2.2).toNat) 0)),io 125 (lf (.dat .u8 v)),io 126 (lR 5),io 127 (lP 6 0),io 128 (lI ar.1),io 129 (lf (.ept 5 1 ((ar.1).toNat) 0)),io 130 (lf (.dat .u8 u)),io 131 (lB (!decide (v=u))),io 132 (lB (!decide (v=u)))] [0,1,3,7,15,31,63,63,191,511,1023,2047,4095,8191,8191,24575,65535,8191,8191,270335,925695,2097151,4194303,8388607,16777215,16777215,50331647,134217727,268435455,16777215,16777215,1090519039,3774873599,8069840895,17179869183,34359738367] mixed rfl (by kernel_rfl) ⟨dxm rfl rfl,dxm rfl rfl,fun _ h_=>day rfl (h_.k rfl) (Qz (h_.v rfl) ZN (by rw[(h_.en 6 rfl)]; rfl) rfl) rfl,fun _ h_=>day rfl (h_.k rfl) (QI (h_.v rfl) (h_.n 6 rfl) QD rfl rfl) rfl,fun _ h_=>day rfl (h_.k rfl) (QZ (hb21) (Ws (h_.v rfl) (QE rfl) rfl)) rfl,fun _ h_=>day rfl (h_.k rfl) (QF (h_.k rfl) rfl) rfl,dxo rfl rfl rfl,dxo rfl rfl rfl,dxo rfl rfl rfl,dxo rfl rfl rfl,fun _ h_=>day rfl (h_.k rfl) (QV (h_.v rfl) (Evl.ev QU) rfl) rfl,fun _ h_=>ac (QV (h_.v rfl) (h_.w rfl) rfl) rfl,dxm rfl rfl,fun _ h_=>day rfl (h_.k rfl) (QF (h_.k rfl) rfl) rfl,fun _ h_=>day rfl (h_.k rfl) (Qz (h_.v rfl) Zr (by rw[(h_.en 6 rfl)]; rfl) rfl) rfl,fun _ h_=>day rfl (h_.k rfl) (QI (h_.v rfl) (h_.n 6 rfl) QD rfl rfl) rfl,fun _ h_=>day rfl (h_.k rfl) (QH (h_.v rfl) (h_.v rfl) rfl Zd (by omega) hc34) rfl,fun _ h_=>day rfl (h_.k rfl) (QF (h_.k rfl) rfl) rfl,fun _ h_=>day rfl (h_.k rfl) (Qz (h_.v rfl) Zg (by rw[(h_.en 6 rfl)]; rfl) rfl) rfl,fun _ h_=>day rfl (h_.k rfl) (QI (h_.v rfl) (h_.n 6 rfl) QD rfl rfl) rfl,fun _ h_=>day rfl (h_.k rfl) (QH (h_.v rfl) (h_.v rfl) rfl Zd (by omega) hc36) rfl,fun _ h_=>day rfl (h_.k rfl) (QZ (hb37) (QG (h_.v rfl) (h_.v rfl) rfl)) rfl,fun _ h_=>ac (QV (h_.v rfl) (h_.w rfl) rfl) rfl,dxm rfl rfl,fun _ h_=>day rfl (h_.k rfl) (QF (h_.k rfl) rfl) rfl,fun _ h_=>day rfl (h_.k rfl) (Qz (h_.v rfl) Zg (by rw[(h_.en 6 rfl)]; rfl) rfl) rfl,fun _ h_=>day rfl (h_.k rfl) (QI (h_.v rfl) (h_.n 6 rfl) QD rfl rfl) rfl,fun _ h_=>day rfl (h_.k rfl) (Qq (e:= .u8) (h_.v rfl) (h_.en 5 rfl) (h_.v rfl) Zc ZA rfl (by omega) (by first | omega | (simp only[List.length_set]; omega))) rfl,fun _ h_=>day rfl (h_.k rfl) (Q7 (e:= .u8) (h_.v rfl) (h_.n 5 rfl) hx39 rfl ZA rfl rfl) rfl,fun _ h_=>day rfl (h_.k rfl) (QF (h_.k rfl) rfl) rfl,fun _ h_=>day rfl (h_.k rfl) (Qz (h_.v rfl) Zr (by rw[(h_.en 6 rfl)]; rfl) rfl) rfl,fun _ h_=>day rfl (h_.k rfl) (QI (h_.v rfl) (h_.n 6 rfl) QD rfl rfl) rfl,fun _ h_=>day rfl (h_.k rfl) (Qq (e:= .u8) (h_.v rfl) (h_.en 5 rfl) (h_.v rfl) Zc ZA rfl (by omega) (by first | omega | (simp only[List.length_set]; omega))) rfl,fun _ h_=>day rfl (h_.k rfl) (Q7 (e:= .u8) (h_.v rfl) (h_.n 5 rfl) hx41 rfl ZA rfl rfl) rfl,fun _ h_=>day rfl (h_.k rfl) (Yb (h_.v rfl) (h_.v rfl) rfl) rfl,fun _ h_=>ac (QV (h_.v rfl) (h_.w rfl) rfl) rfl,⟨⟩⟩ ?_
         cases hb42:(!decide (v=u))
         ·have hb42':(v=u):=Ze hb42
          refine w_ ?_
          refine AC.skip ?_
          refine (?_:AC _ _ _ _ _)
          iterate 3 refine w_ ?_
          refine Qj<|QS ⟨i+1,sg2,ch2,by omega,rfl,(by exact hP.skip hx18 (Qgu hu (hv.trans (congrArg some (by assumption))))),rfl⟩ (by omega) ?_
          exact Wk.of [(0,0),(5,5)] rfl ⟨rfl,rfl,rfl,rfl,rfl,rfl,rfl,rfl,rfl,rfl,trivial⟩ ⟨rfl,rfl,trivial⟩ rfl rfl
         ·have hb42':¬(v=u):=Zp hb42
          refine w_ ?_
          refine dv [io 133 (lR 5),io 134 (lP 6 3),io 135 (lI ar.2.2.2),io 136 (lR 5),io 137 (lP 6 0),io 138 (lI ar.1),io 139 (lf (.ept 5 1 ((ar.1).toNat) 0)),io 140 (lf (.dat .u8 u)),io 141 (lf (.ept 5 1 ((ar.2.2.2).toNat) 0)),⟨none,lf (.val undef),[(5,some (.arr 5 .u8 (sg2.set ((ar.2.2.2).toNat) u)))]⟩,io 11 (lB true)] [0,0,2,0,0,16,56,120,255,511,1023] mixed rfl (by kernel_rfl) ⟨dxm rfl rfl,dxf Zg rfl rfl rfl,dxl QD rfl rfl rfl rfl rfl,dxm rfl rfl,dxf Zr rfl rfl rfl,dxl QD rfl rfl rfl rfl rfl,fun _ h_=>ac (Qq (e:= .u8) (h_.v rfl) (h_.en 5 rfl) (h_.v rfl) Zc ZA rfl (by omega) (by first | omega | (simp only[List.length_set]; omega))) rfl,fun _ h_=>ac (Q7 (e:= .u8) (h_.v rfl) (h_.n 5 rfl) hx41 rfl ZA rfl rfl) rfl,fun _ h_=>ac (Qq (e:= .u8) (h_.v rfl) (h_.en 5 rfl) (h_.v rfl) Zc ZA rfl (by omega) (by first | omega | (simp only[List.length_set]; omega))) rfl,fun _ h_=>ac (Q5 (e:= .u8) (z':=u) (h_.v rfl) (h_.n 5 rfl) hx39 rfl (h_.w rfl) rfl ZA rfl rfl) rfl,fun _ h_=>ac (Y6 QU rfl) rfl,⟨⟩⟩ ?_
          refine (?_:AC _ _ _ _ _)
          iterate 3 refine w_ ?_
          refine Qj<|QS ⟨i+1,(sg2.set ((ar.2.2.2).toNat) u),true,by omega,rfl,(by exact hP.hit hr hx18 hu hv (by have h9:=of_decide_eq_true (hmv.symm.trans (by assumption:mv=true)); rwa [WL hu] at h9) (by first | exact QlU (by assumption) | exact QjV (by assumption)) ((Hn hsdzf hsdzt).1 (by assumption)) (by assumption)),rfl⟩ (by omega) ?_
          exact Wk.of [(0,0),(5,5)] rfl ⟨rfl,rfl,rfl,rfl,rfl,rfl,rfl,rfl,rfl,rfl,trivial⟩ ⟨rfl,(Qv (by first | rfl | simp)),trivial⟩ rfl rfl
     ·iterate 4 refine w_ ?_
      refine AL.fact (Qs (x:= .tmp 85) (Qa rfl)) fun hi43=>lc (Qq (e:= .u8) (Qa rfl) rfl (Qa rfl) Zc ZA rfl (by omega) (by first | omega | (simp only[List.length_set]; omega))) ?_
      obtain ⟨u,hx45⟩:∃z,sg2[(ar.1).toNat]? =some z:=⟨_,List.getElem?_eq_getElem (by omega)⟩
      have hu:=hx45
      refine lc (Q7 (e:= .u8) (Qa rfl) rfl hx45 rfl ZA rfl rfl)<|lc (QG (Qa rfl) (QW 43 rfl) rfl) ?_
      refine w_ ?_
      cases hb46:(decide (u=43))
      ·have hb46':=of_decide_eq_false hb46
       iterate 3 refine w_ ?_
       refine lgy rfl rfl (Qq (e:= .u8) (Qa rfl) rfl (Qa rfl) Zc ZA rfl (by omega) (by first | omega | (simp only[List.length_set]; omega)))<|lgy rfl rfl (Q7 (e:= .u8) (Qa rfl) rfl hx45 rfl ZA rfl rfl)<|lgy rfl rfl (QG (Qa rfl) (QW 45 rfl) rfl) ?_
       iterate 3 refine w_ ?_
       refine VI (J19 _ ⟨(decide (u=45)),(by rw[WL hu]; first | exact (decide_eq_true (.inl (by assumption))).symm | exact Qog (by assumption)),rfl⟩) ?_
       exact Wk.of [(0,0),(5,5),(6,6)] rfl ⟨rfl,rfl,rfl,rfl,rfl,rfl,rfl,rfl,rfl,rfl,rfl,rfl,rfl,rfl,rfl,trivial⟩ ⟨rfl,rfl,rfl,trivial⟩ rfl rfl
      ·have hb46':=of_decide_eq_true hb46
       iterate 9 refine w_ ?_
       refine VI (J19 _ ⟨true,(by rw[WL hu]; first | exact (decide_eq_true (.inl (by assumption))).symm | exact Qog (by assumption)),rfl⟩) ?_
       exact Wk.of [(0,0),(5,5),(6,6)] rfl ⟨rfl,rfl,rfl,rfl,rfl,rfl,rfl,rfl,rfl,rfl,rfl,rfl,rfl,rfl,rfl,trivial⟩ ⟨rfl,rfl,rfl,trivial⟩ rfl rfl
  ·have hb8':=of_decide_eq_true hb8
   iterate 5 refine w_ ?_
   obtain ⟨ar,hx48⟩:∃z,c.2.2[k]? =some z:=⟨_,List.getElem?_eq_getElem (by omega)⟩
   have hain:=hr _ (List.mem_of_getElem? hx48)
   obtain ⟨⟨ha1,ha2⟩,ha3,ha4⟩:=hain
   have hlab:=(hs.arcs _ (List.mem_of_getElem? hx48)).2.2.1
   have hsn:=hs.some_
   have hslt:ar.2.1 < (c.1.length:Int):=VK hlab
   refine lc (Qm (Qa rfl) (Qa rfl) Q9 QJ rfl (by omega) hx48) ?_
   refine w_ ?_
   refine lc (Qw 7 (.pr .int (.pr .int (.pr .bool .int))) Zq rfl rfl (Fresh.of rfl) (nlr rfl))<|lc (Qf (Qa rfl) rfl (Qb rfl) rfl QJ rfl) ?_
   iterate 6 refine w_ ?_
   refine AL.fact (Qs (x:= .tmp 43) (Qa rfl)) fun hi49=> ?_
   obtain ⟨zf,hc51⟩:∃z,(⟨(sg0 c.2.1.length block).toArray⟩:ByteArray)[(ar.1).toNat]? =some z:=⟨_,getElem?_pos _ _ (by omega)⟩
   have hsdzf:=UG (by omega) hc51
   refine lc (QH (Qa rfl) (Qa rfl) rfl Zd (by omega) hc51)<|lc (QG (Qa rfl) (QW 48 rfl) rfl) ?_
   refine w_ ?_
   cases hb52:(decide (zf=48))
   ·have hb52':=of_decide_eq_false hb52
    iterate 13 refine w_ ?_
    refine lc (QH (Qa rfl) (Qa rfl) rfl Zd (by omega) hc51)<|lc (QG (Qa rfl) (QW 49 rfl) rfl) ?_
    refine w_ ?_
    cases hb53:(decide (zf=49))
    ·have hb53':=of_decide_eq_false hb53
     iterate 9 refine w_ ?_
     refine AC.skip ?_
     refine (?_:AC _ _ _ _ _)
     iterate 3 refine w_ ?_
     refine Qj<|QS ⟨k+1,by omega,rfl,rfl⟩ (by omega) ?_
     exact Wk.of [(0,0),(3,3)] rfl ⟨rfl,rfl,rfl,rfl,rfl,rfl,rfl,trivial⟩ ⟨rfl,(Qv (by first | exact HE hx48 hsdzf hsdzt (by assumption) (by assumption) | exact Hq hx48 hsdzf hsdzt (by assumption) (by assumption) | exact Qaa hx48 hsdzf hsdzt (by assumption) (by assumption) | exact Hd hx48 hsdzf hsdzt (by assumption) (by assumption) | exact Hu hx48 hsdzf (by assumption) (by assumption))),trivial⟩ rfl rfl
    ·have hb53':=of_decide_eq_true hb53
     iterate 3 refine w_ ?_
     obtain ⟨zt,hc55⟩:∃z,(⟨(sg0 c.2.1.length block).toArray⟩:ByteArray)[(ar.2.2.2).toNat]? =some z:=⟨_,getElem?_pos _ _ (by omega)⟩
     have hsdzt:=UG (by omega) hc55
     refine lgy rfl rfl (QH (Qa rfl) (Qa rfl) rfl Zd (by omega) hc55)<|lgy rfl rfl (QG (Qa rfl) (QW 48 rfl) rfl) ?_
     iterate 3 refine w_ ?_
     cases hb56:(decide (zt=48))
     ·have hb56':=of_decide_eq_false hb56
      refine w_ ?_
      refine AC.skip ?_
      refine (?_:AC _ _ _ _ _)
      iterate 3 refine w_ ?_
      refine Qj<|QS ⟨k+1,by omega,rfl,rfl⟩ (by omega) ?_
      exact Wk.of [(0,0),(3,3)] rfl ⟨rfl,rfl,rfl,rfl,rfl,rfl,rfl,trivial⟩ ⟨rfl,(Qv (by first | exact HE hx48 hsdzf hsdzt (by assumption) (by assumption) | exact Hq hx48 hsdzf hsdzt (by assumption) (by assumption) | exact Qaa hx48 hsdzf hsdzt (by assumption) (by assumption) | exact Hd hx48 hsdzf hsdzt (by assumption) (by assumption) | exact Hu hx48 hsdzf (by assumption) (by assumption))),trivial⟩ rfl rfl
     ·have hb56':=of_decide_eq_true hb56
      iterate 5 refine w_ ?_
      refine AL.fact (Qs (x:= .tmp 72) (Qa rfl)) fun hi57=>lc (Qq (e:= .u8) (Qa rfl) rfl (Qa rfl) Zc ZA rfl (by omega) (by first | omega | (simp only[List.length_set]; omega))) ?_
      obtain ⟨x58,hx59⟩:∃z,((c.2.2.take k).foldl (Yo block) (sg0 c.2.1.length block))[(ar.2.2.2).toNat]? =some z:=⟨_,List.getElem?_eq_getElem (by omega)⟩
      refine lc (Q5 (e:= .u8) (z':=45) (Qa rfl) rfl hx59 rfl (Evl.ev (QW 45 rfl)) rfl ZA rfl rfl)<|Qj ?_
      refine (?_:AC _ _ _ _ _)
      iterate 3 refine w_ ?_
      refine Qj<|QS ⟨k+1,by omega,rfl,rfl⟩ (by omega) ?_
      exact Wk.of [(0,0),(3,3)] rfl ⟨rfl,rfl,rfl,rfl,rfl,rfl,rfl,trivial⟩ ⟨rfl,(Qv (by first | exact HE hx48 hsdzf hsdzt (by assumption) (by assumption) | exact Hq hx48 hsdzf hsdzt (by assumption) (by assumption) | exact Qaa hx48 hsdzf hsdzt (by assumption) (by assumption) | exact Hd hx48 hsdzf hsdzt (by assumption) (by assumption) | exact Hu hx48 hsdzf (by assumption) (by assumption))),trivial⟩ rfl rfl
   ·have hb52':=of_decide_eq_true hb52
    iterate 3 refine w_ ?_
    obtain ⟨zt,hc61⟩:∃z,(⟨(sg0 c.2.1.length block).toArray⟩:ByteArray)[(ar.2.2.2).toNat]? =some z:=⟨_,getElem?_pos _ _ (by omega)⟩
    have hsdzt:=UG (by omega) hc61
    refine lgy rfl rfl (QH (Qa rfl) (Qa rfl) rfl Zd (by omega) hc61)<|lgy rfl rfl (QG (Qa rfl) (QW 49 rfl) rfl) ?_
    iterate 3 refine w_ ?_
    cases hb62:(decide (zt=49))
    ·have hb62':=of_decide_eq_false hb62
     iterate 5 refine w_ ?_
     refine lc (QH (Qa rfl) (Qa rfl) rfl Zd (by omega) hc51)<|lc (QG (Qa rfl) (QW 49 rfl) rfl) ?_
     refine w_ ?_
     have hb63:(decide (zf=49))=false:=decide_eq_false fun h_=>absurd ((of_decide_eq_true (hb52)).symm.trans h_) (by decide)
     have hb63':=of_decide_eq_false hb63
     try rw[hb63]
     iterate 9 refine w_ ?_
     refine AC.skip ?_
     refine (?_:AC _ _ _ _ _)
     iterate 3 refine w_ ?_
     refine Qj<|QS ⟨k+1,by omega,rfl,rfl⟩ (by omega) ?_
     exact Wk.of [(0,0),(3,3)] rfl ⟨rfl,rfl,rfl,rfl,rfl,rfl,rfl,trivial⟩ ⟨rfl,(Qv (by first | exact HE hx48 hsdzf hsdzt (by assumption) (by assumption) | exact Hq hx48 hsdzf hsdzt (by assumption) (by assumption) | exact Qaa hx48 hsdzf hsdzt (by assumption) (by assumption) | exact Hd hx48 hsdzf hsdzt (by assumption) (by assumption) | exact Hu hx48 hsdzf (by assumption) (by assumption))),trivial⟩ rfl rfl
    ·have hb62':=of_decide_eq_true hb62
     iterate 5 refine w_ ?_
     refine AL.fact (Qs (x:= .tmp 55) (Qa rfl)) fun hi64=>lc (Qq (e:= .u8) (Qa rfl) rfl (Qa rfl) Zc ZA rfl (by omega) (by first | omega | (simp only[List.length_set]; omega))) ?_
     obtain ⟨x65,hx66⟩:∃z,((c.2.2.take k).foldl (Yo block) (sg0 c.2.1.length block))[(ar.2.2.2).toNat]? =some z:=⟨_,List.getElem?_eq_getElem (by omega)⟩
     refine lc (Q5 (e:= .u8) (z':=43) (Qa rfl) rfl hx66 rfl (Evl.ev (QW 43 rfl)) rfl ZA rfl rfl)<|Qj ?_
     refine (?_:AC _ _ _ _ _)
     iterate 3 refine w_ ?_
     refine Qj<|QS ⟨k+1,by omega,rfl,rfl⟩ (by omega) ?_
     exact Wk.of [(0,0),(3,3)] rfl ⟨rfl,rfl,rfl,rfl,rfl,rfl,rfl,trivial⟩ ⟨rfl,(Qv (by first | exact HE hx48 hsdzf hsdzt (by assumption) (by assumption) | exact Hq hx48 hsdzf hsdzt (by assumption) (by assumption) | exact Qaa hx48 hsdzf hsdzt (by assumption) (by assumption) | exact Hd hx48 hsdzf hsdzt (by assumption) (by assumption) | exact Hu hx48 hsdzf (by assumption) (by assumption))),trivial⟩ rfl rfl
 ·have hb4':=of_decide_eq_true hb4
  iterate 15 refine w_ ?_
  refine lc (Qh (Xz block (k:Int)) Qcm ⟨_,_,rfl,(Qb rfl),⟨_,_,rfl,(Qb rfl),rfl⟩⟩ rfl rfl) ?_
  refine w_ ?_
  cases hb67:(block.any (fun y=>decide ((k:Int)=y)))
  ·iterate 5 refine w_ ?_
   obtain ⟨c68,hc69⟩:∃z,(⟨#[48,43,49,45]⟩:ByteArray)[(0:Int).toNat]? =some z:=⟨_,getElem?_pos _ _ (by omega)⟩
   refine lc (QH (Evl.str rfl) (Qa rfl) rfl Zd (by omega) hc69)<|lc (Qk 8 (e:= .u8) Zc ZA Qco rfl ⟨_,_,rfl,(Qb rfl),rfl⟩ (List.all_eq_true.1 rfl) ⟨_,_,_,_,rfl,⟨rfl,rfl⟩,⟨rfl,rfl⟩,rfl⟩ (by decide) rfl rfl (Fresh.of rfl) (nlr rfl))<|lc (Q0 9 (Qa rfl) rfl (Qa rfl) rfl rfl Zc Qov (by first | omega | (simp only[List.length_append,List.length_map,List.length_take,List.length_cons,List.length_nil]; omega) | (simp only[List.length_append,List.length_drop,List.length_take,List.length_cons,List.length_nil]; omega)) rfl (Fresh.of rfl) (nlr rfl)) ?_
   refine w_ ?_
   refine Qj ?_
   refine (?_:AC _ _ _ _ _)
   iterate 3 refine w_ ?_
   refine Qj<|QS ⟨k+1,by omega,rfl,rfl⟩ (by omega) ?_
   exact Wk.of [(0,0),(2,9)] rfl ⟨rfl,rfl,rfl,rfl,rfl,rfl,trivial⟩ ⟨rfl,(Qv (by first | exact Qfo (Qox (by assumption)) (Option.some.inj hc69) | exact QhO (Qos (by assumption)) (Option.some.inj hc69))),trivial⟩ rfl rfl
  ·iterate 7 refine w_ ?_
   obtain ⟨c70,hc71⟩:∃z,(⟨#[48,43,49,45]⟩:ByteArray)[(2:Int).toNat]? =some z:=⟨_,getElem?_pos _ _ (by omega)⟩
   refine lc (QH (Evl.str rfl) (Qa rfl) rfl Zd (by omega) hc71)<|lc (Qk 10 (e:= .u8) Zc ZA Qco rfl ⟨_,_,rfl,(Qb rfl),rfl⟩ (List.all_eq_true.1 rfl) ⟨_,_,_,_,rfl,⟨rfl,rfl⟩,⟨rfl,rfl⟩,rfl⟩ (by decide) rfl rfl (Fresh.of rfl) (nlr rfl))<|lc (Q0 11 (Qa rfl) rfl (Qa rfl) rfl rfl Zc Qov (by first | omega | (simp only[List.length_append,List.length_map,List.length_take,List.length_cons,List.length_nil]; omega) | (simp only[List.length_append,List.length_drop,List.length_take,List.length_cons,List.length_nil]; omega)) rfl (Fresh.of rfl) (nlr rfl)) ?_
   refine w_ ?_
   refine Qj ?_
   refine (?_:AC _ _ _ _ _)
   iterate 3 refine w_ ?_
   refine Qj<|QS ⟨k+1,by omega,rfl,rfl⟩ (by omega) ?_
   exact Wk.of [(0,0),(2,11)] rfl ⟨rfl,rfl,rfl,rfl,rfl,rfl,trivial⟩ ⟨rfl,(Qv (by first | exact Qfo (Qox (by assumption)) (Option.some.inj hc71) | exact QhO (Qos (by assumption)) (Option.some.inj hc71))),trivial⟩ rfl rfl
theorem WE (a:Int×Int×Bool×Int)(l:List Int):FC Tryz.prog 196 [(true,[dI a.1,dI a.2.1,dB a.2.2.1,dI a.2.2.2]),(false,[.dat (.sl 3 .int) l])] [] 0 (Zy (lI (if¬a.1∈l∧a.2.2.2∈l then 1 else if a.1∈l∧¬a.2.2.2∈l then 2 else (0:Int)))):=by
 refine QQ Tryz.func196 rfl rfl Tryz.ntmps196 fun O_ hO w0_ N0_ X_ h0_ f0_=> ?_
 refine AC.fact (Q3 (x:= .tmp 0) (i:=0) (Qb rfl) rfl) fun hi1=>AC.fact (Q3 (x:= .tmp 0) (i:=1) (Qb rfl) rfl) fun hi2=>AC.fact (Q3 (x:= .tmp 0) (i:=3) (Qb rfl) rfl) fun hi3=> ?_
 refine w_ ?_
 refine lc (Qr 0 (Qb rfl) rfl rfl (Fresh.of rfl) (nlr rfl)) ?_
 iterate 8 refine w_ ?_
 refine lc (Qh (Yn l a.1) Y9 ⟨_,_,rfl,(Qb rfl),⟨_,_,rfl,(Qb rfl),rfl⟩⟩ rfl rfl) ?_
 iterate 2 refine w_ ?_
 cases hb4:(decide (a.1∈l))
 ·have hb4':=of_decide_eq_false hb4
  iterate 3 refine w_ ?_
  refine lgy rfl rfl (Qh (Yn l a.2.2.2) Y9 ⟨_,_,rfl,(Qb rfl),⟨_,_,rfl,(Qb rfl),rfl⟩⟩ rfl rfl) ?_
  iterate 3 refine w_ ?_
  cases hb5:(decide (a.2.2.2∈l))
  ·have hb5':=of_decide_eq_false hb5
   iterate 5 refine w_ ?_
   refine lc (Qh (Yn l a.1) Y9 ⟨_,_,rfl,(Qb rfl),⟨_,_,rfl,(Qb rfl),rfl⟩⟩ rfl rfl) ?_
   refine w_ ?_
   have hb6:(decide (a.1∈l))=false:=hb4
   try rw[hb6]
   iterate 9 refine w_ ?_
   refine AC.skip ?_
   refine (?_:AC _ _ _ _ _)
   iterate 3 refine w_ ?_
   refine Qe ?_
   subst hO
   have e7:(0:Int)=(if¬a.1∈l∧a.2.2.2∈l then 1 else if a.1∈l∧¬a.2.2.2∈l then 2 else (0:Int)):=by
    (simp_all; done)
   exact Qg (Qd rfl (Qc rfl)) ((congrArg (fun z_=>lI z_) e7)) rfl
  ·have hb5':=of_decide_eq_true hb5
   iterate 4 refine w_ ?_
   refine Qe ?_
   subst hO
   have e8:(1:Int)=(if¬a.1∈l∧a.2.2.2∈l then 1 else if a.1∈l∧¬a.2.2.2∈l then 2 else (0:Int)):=by
    (simp_all; done)
   exact Qg (Qd rfl (Qc rfl)) ((congrArg (fun z_=>lI z_) e8)) rfl
 ·have hb4':=of_decide_eq_true hb4
  iterate 12 refine w_ ?_
  refine lc (Qh (Yn l a.1) Y9 ⟨_,_,rfl,(Qb rfl),⟨_,_,rfl,(Qb rfl),rfl⟩⟩ rfl rfl) ?_
  refine w_ ?_
  have hb9:(decide (a.1∈l))=true:=hb4
  try rw[hb9]
  iterate 3 refine w_ ?_
  refine lgy rfl rfl (Qh (Yn l a.2.2.2) Y9 ⟨_,_,rfl,(Qb rfl),⟨_,_,rfl,(Qb rfl),rfl⟩⟩ rfl rfl) ?_
  iterate 4 refine w_ ?_
  cases hb10:(decide (a.2.2.2∈l))
  ·have hb10':=of_decide_eq_false hb10
   iterate 4 refine w_ ?_
   refine Qe ?_
   subst hO
   have e11:(2:Int)=(if¬a.1∈l∧a.2.2.2∈l then 1 else if a.1∈l∧¬a.2.2.2∈l then 2 else (0:Int)):=by
    (simp_all; done)
   exact Qg (Qd rfl (Qc rfl)) ((congrArg (fun z_=>lI z_) e11)) rfl
  ·have hb10':=of_decide_eq_true hb10
   refine w_ ?_
   refine AC.skip ?_
   refine (?_:AC _ _ _ _ _)
   iterate 3 refine w_ ?_
   refine Qe ?_
   subst hO
   have e12:(0:Int)=(if¬a.1∈l∧a.2.2.2∈l then 1 else if a.1∈l∧¬a.2.2.2∈l then 2 else (0:Int)):=by
    (simp_all; done)
   exact Qg (Qd rfl (Qc rfl)) ((congrArg (fun z_=>lI z_) e12)) rfl
end Go.Proofs.YtnakmhfjafecpaaGreat
