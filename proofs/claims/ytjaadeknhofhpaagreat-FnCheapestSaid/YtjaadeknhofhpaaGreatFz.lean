/- Abstract states: a slice of one's own, of slices: its cells as such, what they lead to apart. No program is named here. -/
import Derived.Test.YtjaadeknhofhpaaGreatAv
import Derived.Test.YtjaadeknhofhpaaGreatWk
import Derived.Shelf.Lays
import Derived.Shelf.Lays2
import Derived.Shelf.Slices.In.SortNone
import Derived.Shelf.Slices.In.CompactI
import Derived.Test.YtjaadeknhofhpaaGreatApp
import Derived.Shelf.SlSortCmp.NoneTotal
import Derived.Shelf.SlLaysF
set_option linter.unusedSimpArgs false
set_option linter.unusedVariables false
set_option linter.unusedSectionVars false
namespace Go.Proofs.YtjaadeknhofhpaaGreat
open Go.RowKit
theorem QcM:∀{t:Ty} {w:World} {cs:List Value} {x y:t.Den},Rep t w cs x→Rep t w cs y→x=y
  | .int,_,_,x,y,h,k=>by have h1:=h.1; have h2:=k.1; rw[h1] at h2; simpa using h2
  | .bool,_,_,x,y,h,k=>by have h1:_=_:=h; have h2:_=_:=k; rw[h1] at h2; simpa using h2
  | .str,_,_,x,y,h,k=>by have h1:=h.1; have h2:=k.1; rw[h1] at h2; simpa using h2
  | .u8,_,_,x,y,h,k=>by
    have h1:_=_:=h; have h2:_=_:=k; rw[h1] at h2
    simp only[aB,Value.int.injEq,and_true,true_and] at h2
    exact UInt8.toNat_inj.1 (by omega)
  | .vl,_,_,x,y,h,k=>by
    have h1:_=_:=h; have h2:_=_:=k; rw[h1] at h2
    exact QlO (by simpa using h2)
  | .sl E e,w,cs,xs,ys,⟨A,c,h1,h2,h3,h4⟩,⟨A',c',k1,k2,k3,k4⟩=>by
    rw[h1] at k1
    simp only[aB,Value.slice.injEq,and_true] at k1
    obtain ⟨rfl,hl,rfl⟩:=k1
    apply bz
    intro i
    rcases cK i xs.length with hi | hi
    · obtain ⟨b, o, e1, g1⟩ := h4 (by omega)
      obtain ⟨b',o',e2,g2⟩:=k4 (by omega)
      rw[e1] at e2
      cases e2
      obtain ⟨ds,r1,r2⟩:=g1 i xs[i] (ai hi)
      obtain ⟨ds',s1,s2⟩:=g2 i ys[i] (ai (by omega))
      have hd:ds=ds':=by
        apply bz
        intro j
        have l1:=r1.len
        have l2:=s1.len
        rcases cK j e.wd with hj | hj
        · have a1 := r2 j ds[j] (ai (by omega))
          have a2:=s2 j ds'[j] (ai (by omega))
          rw[a1] at a2
          rw[ai (by omega),ai (by omega)]
          exact a2
        · rw[bu (by omega),bu (by omega)]
      subst hd
      rw[ai hi,ai (by omega),QcM r1 s1]
    · rw[bu hi,bu (by omega)]
  | .pr a b,w,cs,x,y,⟨l,r,h1,h2,h3⟩,⟨l',r',k1,k2,k3⟩=>by
    rw[h1] at k1
    obtain ⟨rfl,rfl⟩:=List.append_inj k1 (by rw[h2.len,k2.len])
    exact Prod.ext (QcM h2 k2) (QcM h3 k3)
theorem Qds {E:TypeId}{e:Ty}{w:World}{fp:List Nat}{cs:List Value}{x:List e.Den}(h:Own (.sl E e) w fp cs x):∃v:Hdr,cs=[hdV v]:=by
  rcases h with ⟨_,h,_⟩ | ⟨g,cap,cur,fps,_,h,_⟩
  · exact ⟨none,h⟩
  · exact ⟨some (g,0,x.length,cap),h⟩
open Classical in
noncomputable def rdF (E:TypeId) (e:Ty) (w:World) (v:Hdr):List e.Den:=if h:∃x,Rep (.sl E e) w [hdV v] x then h.choose else []
theorem QdF {E:TypeId}{e:Ty}{w:World}{v:Hdr}{x:List e.Den}(h:Rep (.sl E e) w [hdV v] x):rdF E e w v=x:=by
  have hx:∃x,Rep (.sl E e) w [hdV v] x:=⟨x,h⟩
  unfold rdF
  rw[dif_pos hx]
  exact QcM hx.choose_spec h
theorem QfQ {E:TypeId}{e:Ty}{w:World}:∀{xs:List (List e.Den)} {fp:List Nat} {cs:List Value},OwnL (Own (.sl E e) w) fp cs xs→∃vs:List Hdr,cs=vs.map hdV∧vs.map (rdF E e w)=xs
  | [],_,_,h=>⟨[],h.2,rfl⟩
  | x :: xs,_,_,⟨f1,f2,c1,c2,h1,h2,h3,h4⟩=>by
    obtain ⟨v,rfl⟩:=Qds h3
    obtain ⟨vs,rfl,k2⟩:=QfQ h4
    exact ⟨v :: vs,by rw[h2]; rfl,by rw[bf,k2,QdF h3.rep]⟩
theorem Qhk {E:TypeId}{e:Ty}{w:World}{f:Hdr→List e.Den}:∀{vs:List Hdr} {fp:List Nat},OwnL (Own (.sl E e) w) fp (vs.map hdV) (vs.map f)→∀v∈vs,∃fv,Own (.sl E e) w fv [hdV v] (f v)∧∀g∈fv,g∈fp
  | [],_,_,v,hv=>by cases hv
  | u :: vs,fp,h,v,hv=>by
    obtain ⟨f1,f2,c1,c2,rfl,h2,h3,h4⟩:=h
    obtain ⟨z,rfl⟩:=Qds h3
    simp only[bf,bR,cn,aB] at h2
    obtain ⟨h5,rfl⟩:=h2
    rcases aH.1 hv with rfl | hv
    · exact ⟨f1,by rw[h5]; exact h3,fun g hg=>aV _ hg⟩
    · obtain ⟨fv, k1, k2⟩ := Qhk h4 v hv
      exact ⟨fv,k1,fun g hg=>aQ _ (k2 g hg)⟩
theorem Qmc {w:World}:∀(vs:List Hdr),OwnL (Own .vl w) [] (vs.map hdV) vs
  | []=>⟨rfl,rfl⟩
  | v :: vs=>⟨[],[],[hdV v],vs.map hdV,rfl,rfl,⟨rfl,rfl⟩,Qmc vs⟩
theorem Qpk {E E':TypeId}{e:Ty}{w:World}{fp:List Nat}{v:Value}{xs:List (List e.Den)}(h:Own (.sl E (.sl E' e)) w fp [v] xs):
    ∃fg fi vs f,fp=fg++fi∧Own (.sl E .vl) w fg [v] vs∧OwnL (Own (.sl E' e) w) fi (vs.map hdV) (vs.map f)∧vs.map f=xs:=by
  rcases h with ⟨rfl,h,rfl⟩ | ⟨g,cap,cur,fps,rfl,h1,h2,h3,h4,h5,h6⟩
  · exact ⟨[],[],[],fun _=>[],rfl, .inl ⟨rfl,h,rfl⟩,⟨rfl,rfl⟩,rfl⟩
  · obtain ⟨vs, k1, k2⟩ := QfQ h6
    have hl:vs.length=xs.length:=by rw[← k2,aF]
    rw[k1] at h6
    refine ⟨[g],fps,vs,rdF E' e w,rfl, .inr ⟨g,cap,cur,[],rfl,by rw[hl]; exact h1,h2,by omega,h4,h5, ?_⟩,by rw[k2]; exact h6,k2⟩
    have:(cur.toList.take (vs.length*Ty.wd .vl))=vs.map hdV:=by rw[hl]; exact k1
    rw[this]
    exact Qmc vs
section
variable {A:Amb}{P:Program}{s:St}{Q:Exit→St→Prop}{c:Code}
theorem R.pool {q:Nat}(p:Nat){E E':TypeId}{e:Ty}{xs:List (List e.Den)}{a:Act}{w:World}(he:s.tab.ent q=some (.arr E (.sl E' e) xs))(hfr:Fresh s p)(hk:A.k0≤p)(r:R A s a w):
    ∃(vs:List Hdr) (f:Hdr→List e.Den),vs.map f=xs∧R A ⟨s.tm,(p,some (.pl false (.sl E' e) vs f)) :: (q,some (.arr E .vl vs)) :: s.tab⟩ a w:=by
  obtain ⟨gh,r⟩:=r
  have hq:s.tab.al q:=⟨_,he⟩
  have hne:q≠p:=fun h=>hfr.al (h▸hq)
  have hO:Own (.sl E (.sl E' e)) w (gh.f q) [gh.h q] xs:=r.cx.en q _ he
  obtain ⟨fg,fi,vs,f,h1,h2,h3,h4⟩:=Qpk hO
  have hnd:=r.cx.nd q hq
  rw[h1] at hnd
  obtain ⟨n1,n2,n3⟩:=bl.1 hnd
  have mg:∀g∈fg,g∈gh.f q:=fun g hg=>by rw[h1]; exact aV _ hg
  have mi:∀g∈fi,g∈gh.f q:=fun g hg=>by rw[h1]; exact aQ _ hg
  have hal:∀t,Tab.al ((p,some (.pl false (.sl E' e) vs f)) :: (q,some (.arr E .vl vs)) :: s.tab) t→t=p∨(t≠p∧s.tab.al t):=fun t ⟨x,hx⟩=>by
    by_cases e1:t=p
    · exact .inl e1
    · refine .inr ⟨e1, ?_⟩
      rw[Qq,if_neg e1,Qq] at hx
      by_cases e2:t=q
      · rw[e2]; exact hq
      · rw[if_neg e2] at hx; exact ⟨_,hx⟩
  let gh':Gh:=⟨fun t=>if t=p then .slice none 0 0 else gh.h t,fun t=>if t=p then [] else if t=q then fg else gh.f t,fun g=>gh.N g∨g∈fi⟩
  have fq:gh'.f q=fg:=by show (if q=p then [] else if q=q then fg else gh.f q)=fg; rw[if_neg hne,if_pos rfl]
  have fp:gh'.f p=[]:=if_pos rfl
  have fo:∀t,t≠p→t≠q→gh'.f t=gh.f t:=fun t e1 e2=>by show (if t=p then [] else if t=q then fg else gh.f t)=_; rw[if_neg e1,if_neg e2]
  have hh:∀t,t≠p→gh'.h t=gh.h t:=fun t e1=>if_neg e1
  have sub:∀t,t≠p→∀g∈gh'.f t,g∈gh.f t:=fun t e1 g hg=>by
    by_cases e2:t=q
    · rw[e2,fq] at hg; rw[e2]; exact mg g hg
    · rwa [fo t e1 e2] at hg
  have hN:∀g,gh.N g→gh'.N g∧w.heap[g]? =w.heap[g]? :=fun g h=>⟨.inl h,rfl⟩
  refine ⟨vs,f,h4,gh',r.step ⟨fun t x hx=> ?_,fun t t' ht ht' hn g hg hg'=> ?_,fun t ht=> ?_,fun t ht g hg hgN=> ?_,fun g hgN=> ?_⟩ (fun t ht=> ?_) hN (ZP w) (fun _ _ _=>rfl) (fun g hgN=> ?_) fun t ht g hg=> ?_⟩
  · rw [Qq] at hx
    by_cases e1:t=p
    · rw [if_pos e1] at hx
      cases hx
      rw[e1]
      refine ⟨if_pos rfl,fp,fun v hv=> ?_⟩
      obtain ⟨fv,k1,k2⟩:=Qhk h3 v hv
      exact k1.rd fun g hg=> .inr (k2 g hg)
    · rw [if_neg e1, Qq] at hx
      by_cases e2:t=q
      · rw [if_pos e2] at hx
        cases hx
        show Own (.sl E .vl) w (gh'.f t) [gh'.h t] vs
        rw[e2,fq,hh q hne]
        exact h2
      · rw [if_neg e2] at hx
        refine (r.cx.en t x hx).mono (fun r' hr' ha=> ?_) hN (hh t e1) (fo t e1 e2) fun _ _=>rfl
        have e3:r'≠p:=fun h=>hfr.en t x hx (h▸hr')
        rcases hal r' ha with h | ⟨_,h⟩
        · exact absurd h e3
        · exact ⟨h,hh r' e3⟩
  · rcases hal t ht with e1 | ⟨e1, a1⟩
    · rw[e1,fp] at hg; cases hg
    · rcases hal t' ht' with e2 | ⟨e2, a2⟩
      · rw[e2,fp] at hg'; cases hg'
      · exact r.cx.dj t t' a1 a2 hn g (sub t e1 g hg) (sub t' e2 g hg')
  · rcases hal t ht with e1 | ⟨e1, a1⟩
    · rw[e1,fp]; exact bE
    · by_cases e2 : t = q
      · rw[e2,fq]; exact n1
      · rw[fo t e1 e2]; exact r.cx.nd t a1
  · rcases hal t ht with e1 | ⟨e1, a1⟩
    · rw[e1,fp] at hg; cases hg
    · rcases hgN with hgN | hgN
      · exact r.cx.no t a1 g (sub t e1 g hg) hgN
      · by_cases e2 : t = q
        · rw[e2,fq] at hg; exact n3 g hg g hgN rfl
        · exact r.cx.dj t q a1 hq e2 g (sub t e1 g hg) (mi g hgN)
  · rcases hgN with hgN | hgN
    · exact r.cx.nl g hgN
    · exact r.cx.lt hq g (mi g hgN)
  · rcases hal t ht with e1 | ⟨e1, a1⟩
    · rw[e1]; exact .inr ⟨hfr,hk⟩
    · exact .inl ⟨a1,hh t e1,fun _=>rfl⟩
  · rcases hgN with hgN | hgN
    · exact .inl hgN
    · exact .inr (.inr ⟨q,hq,mi g hgN,fun hl=>r.xn g hl (r.ox q hq g (mi g hgN) hl)⟩)
  · rcases hal t ht with e1 | ⟨e1, a1⟩
    · rw[e1,fp] at hg; cases hg
    · exact .inr ⟨t,a1,sub t e1 g hg⟩
theorem AC.pool {q:Nat}(p:Nat){E E':TypeId}{e:Ty}{xs:List (List e.Den)}(he:s.tab.ent q=some (.arr E (.sl E' e) xs))(hfr:Fresh s p)(hk:A.k0≤p)
    (k:∀(vs:List Hdr) (f:Hdr→List e.Den),vs.map f=xs→AC A P c Q ⟨s.tm,(p,some (.pl false (.sl E' e) vs f)) :: (q,some (.arr E .vl vs)) :: s.tab⟩):AC A P c Q s:=fun a w r=>by
  obtain ⟨vs,f,h,r'⟩:=R.pool p he hfr hk r
  exact k vs f h a w r'
theorem AL.pool {ops:Array Oper}{l:List Oper}{q:Nat}(p:Nat){E E':TypeId}{e:Ty}{xs:List (List e.Den)}(he:s.tab.ent q=some (.arr E (.sl E' e) xs))(hfr:Fresh s p)(hk:A.k0≤p)
    (k:∀(vs:List Hdr) (f:Hdr→List e.Den),vs.map f=xs→AL A P ops l Q ⟨s.tm,(p,some (.pl false (.sl E' e) vs f)) :: (q,some (.arr E .vl vs)) :: s.tab⟩):AL A P ops l Q s:=fun a w r=>by
  obtain ⟨vs,f,h,r'⟩:=R.pool p he hfr hk r
  exact k vs f h a w r'
theorem Evl.pl {x:Operand}{p:Nat}{e:Ty}{vs:List Hdr}{f:Hdr→e.Den}{v:Hdr}(hx:Evl A s x (.dat .vl v))(hp:s.tab.ent p=some (.pl false e vs f))(hv:v∈vs):Evl A s x (.dat e (f v)):=fun gh a w r=>by
  obtain ⟨_,_,h3⟩:=r.cx.en p _ hp
  have h1:Rd gh.N .vl w [a.eval x] v:=hx gh a w r
  have h2:[a.eval x]=[hdV v]:=h1.rep
  show Rd gh.N e w [a.eval x] (f v)
  rw[h2]
  exact h3 v hv
theorem QpO {i q p:Nat}{E E':TypeId}{e:Ty}{zs vs:List Hdr}{f:Hdr→List e.Den}(hi:lk s.tm i=some (lf (.ref q)))(he:s.tab.ent q=some (.arr E .vl zs))(hp:s.tab.ent p=some (.pl false (.sl E' e) vs f))(hz:∀z∈zs,z∈vs):
    Wk A s ⟨(i,lf (.dat (.sl E (.sl E' e)) (zs.map f))) :: s.tm,(q,none) :: s.tab⟩:=fun a w r=>by
  obtain ⟨gh,r⟩:=r
  obtain ⟨v,h1,l,h2,h3⟩:=r.tm i _ hi
  simp only[aB,and_true] at h2
  subst h2
  have hv:v=gh.h q:=h3 ⟨_,he⟩
  have hO:Own (.sl E .vl) w (gh.f q) [gh.h q] zs:=r.cx.en q _ he
  obtain ⟨_,_,k3⟩:=r.cx.en p _ hp
  refine ⟨_,(r.freeze he).know h1 (pv:=lf (.dat (.sl E (.sl E' e)) (zs.map f))) ⟨_,rfl, ?_⟩⟩
  rw[hv]
  show Rd (fun g=>gh.N g∨g∈gh.f q) (.sl E (.sl E' e)) w [gh.h q] (zs.map f)
  obtain ⟨wM,m1,m2⟩:=Qai (fun g=>gh.N g∨g∈gh.f q) w
  refine ⟨wM,m1, ?_⟩
  rcases hO with ⟨_,g2,g3⟩ | ⟨g,cap,cur,fps,g1,g2,g3,g4,g5,g6,g7⟩
  · subst g3
    exact ⟨none,0,g2,aO _,ap _,fun h=>absurd h (by simp)⟩
  · refine ⟨_, cap, by rw [aF]; exact g2, by rw [aF]; exact g4, g5, fun _ => ⟨g, 0, rfl, fun j y hy => ?_⟩⟩
    rw[b6] at hy
    obtain ⟨z,hz1,rfl⟩:=bL.1 hy
    obtain ⟨wN,w1,w2⟩:=k3 z (hz z (a8 hz1))
    refine ⟨[hdV z],w2.kp (w1.kp fun g' hg'=>m2 g' (.inl hg')),fun b u hu=> ?_⟩
    obtain ⟨fv,ds,o1,o2,o3⟩:=g7.get j z hz1
    have o4:ds=[hdV z]:=o1.2
    subst o4
    have o5:=o3 b u hu
    rw[b8] at o5
    split at o5
    · rw [World.cell?_of_block (m2 g (.inr (by rw [g1]; simp)))]
      simp only[World.cell?,g3]
      simpa using o5
    · cases o5
end
end Go.Proofs.YtjaadeknhofhpaaGreat
namespace Go.Proofs.YtjaadeknhofhpaaGreat
open Go.RowKit
section
variable {A:Amb}{P:Program}{s:St}{x y:Operand}{d:Nat}{T T' ty:TypeId}{pos:String}{af:Array Edge}{g:Option (Nat×Bool)}
theorem Qk2 (m n:Nat)(hm:m < 9223372036854775808)(hn:n < 9223372036854775808):bits .andNot .i64 (m:Int) (n:Int)=((m ^^^ (m &&& n):Nat):Int):=by
  have h1:(BitVec.ofInt 64 (m:Int)).toNat=m:=by rw[BitVec.ofInt_natCast,BitVec.toNat_ofNat]; exact cd (by omega)
  have h2:(BitVec.ofInt 64 (n:Int)).toNat=n:=by rw[BitVec.ofInt_natCast,BitVec.toNat_ofNat]; exact cd (by omega)
  have hx:m ^^^ (m &&& n) < 2 ^ 63:=Nat.xor_lt_two_pow (by omega) (Nat.and_lt_two_pow _ (by omega))
  have h3:BitVec.ofInt 64 (m:Int) &&& ~~~(BitVec.ofInt 64 (n:Int))=BitVec.ofInt 64 (m:Int) ^^^ (BitVec.ofInt 64 (m:Int) &&& BitVec.ofInt 64 (n:Int)):=by
    ext i hi
    simp only[BitVec.getElem_and,BitVec.getElem_not,BitVec.getElem_xor]
    cases (BitVec.ofInt 64 (m:Int))[i] <;> cases (BitVec.ofInt 64 (n:Int))[i] <;> rfl
  show IntKind.i64.wrap ((BitVec.ofInt 64 (m:Int) &&& ~~~(BitVec.ofInt 64 (n:Int))).toNat:Int)=_
  rw[h3,BitVec.toNat_xor,BitVec.toNat_and,h1,h2,IntWalk.i64_in _ (by omega)]
theorem QhG {m n:Int}(hx:Evl A s x (dI m))(hy:Evl A s y (dI n))(hn:Nat.blt d A.n=true)(h0:0≤m)(h00:0≤n):Does A P ⟨some d, .binOp .andNot T x y T',ty,pos,af,g⟩ s (s.put d (lf (dI ((m.toNat ^^^ (m.toNat &&& n.toNat):Nat):Int)))):=
  Qn rfl hn fun gh a w r=>by
    have h1:=hx.i r
    have h2:=hy.i r
    have k1:=(LVR.int (hx gh a w r)).2
    have k2:=(LVR.int (hy gh a w r)).2
    have hb:=Qk2 m.toNat n.toNat (by omega) (by omega)
    rw[ce h0,ce h00] at hb
    have h3:Op.intBits .andNot .i64 m n=pure (.int .i64 ((m.toNat ^^^ (m.toNat &&& n.toNat):Nat):Int)):=by rw[← hb]; rfl
    have hx2:m.toNat ^^^ (m.toNat &&& n.toNat) < 2 ^ 63:=Nat.xor_lt_two_pow (by omega) (Nat.and_lt_two_pow _ (by omega))
    refine ⟨.int .i64 ((m.toNat ^^^ (m.toNat &&& n.toNat):Nat):Int), ?_,_,rfl,Yo (by omega)⟩
    simp only[execOp,h1,h2,eqGuard_at_int,binOp,h3]
    simp
end
end Go.Proofs.YtjaadeknhofhpaaGreat
namespace Go.Proofs.YtjaadeknhofhpaaGreat
open Go.RowKit
section
variable {α:Type}[DecidableEq α][Inhabited α]
omit [Inhabited α] in
theorem QfJ (y:α):∀l:List α,Y6 (l++[y])=Y6 l++(if l.getLast? =some y then [] else [y])
  | []=>by simp[Y6]
  | [x]=>by
    by_cases h:x=y
    · simp[Y6,h]
    · simp[Y6,h]
  | x :: z :: l=>by
    have ih:=QfJ y (z :: l)
    have hl:(x :: z :: l).getLast? =(z :: l).getLast? :=by simp
    rw[hl]
    show (if x=z then Y6 ((z :: l)++[y]) else x :: Y6 ((z :: l)++[y]))=(if x=z then Y6 (z :: l) else x :: Y6 (z :: l))++_
    rw[ih]
    split <;> simp
theorem QaB (zs:List α):∀m,m≤zs.length→Lib.compactUpTo zs.toArray m=Y6 (zs.take m)
  | 0,_=>by simp[Lib.compactUpTo,Y6]
  | m+1,hm=>by
    have hg:zs[m]? =some zs[m]:=ai (by omega)
    have hd:(zs.toArray)[m]! =zs[m]:=by rw[getElem!_pos _ m (by simp; omega)]; simp
    rw[Lib.compactUpTo_succ,QaB zs m (by omega),QO hg,QfJ,hd]
    refine congrArg _ ?_
    cases m with
    | zero=>simp[Lib.keeps]
    | succ k=>
      have hd2:(zs.toArray)[k]! =zs[k]:=by rw[getElem!_pos _ k (by simp; omega)]; simp
      have hl:(zs.take (k+1)).getLast? =some zs[k]:=by
        rw[List.getLast?_eq_getElem?,ak,show min (k+1) zs.length - 1=k by omega,List.getElem?_take_of_lt (by omega)]
        exact ai (by omega)
      rw[hl]
      have hkp:Lib.keeps zs.toArray (k+1)= !decide (zs[k]=zs[k+1]):=by
        unfold Lib.keeps
        rw[hd,show k+1 - 1=k from rfl,hd2]
        by_cases e:zs[k]=zs[k+1]
        · simp[e]
        · simp[e,Ne.symm e]
      rw[hkp]
      by_cases e:zs[k]=zs[k+1]
      · simp[e]
      · simp[e]
theorem QkR (zs:List α):Lib.compact zs=Y6 zs:=by
  have:=QaB zs zs.length (aO _)
  rw[List.take_length] at this
  exact this
omit [Inhabited α] in
theorem QhX:∀l:List α,(Y6 l).length≤l.length
  | []=>aO _
  | [_]=>aO _
  | x :: y :: l=>by
    have:=QhX (y :: l)
    unfold Y6
    split
    · simp only[ao] at*; omega
    · simp only[ao] at*; omega
end
def Qqu (P:Program)(f:FuncId):Prop:=∀(blk cap:Nat) (zs:List Int) (w:World),Sort.Holds (Value.int .i64) w blk 0 zs.toArray→zs.length≤9223372036854775807→zs.length≤cap→
  Calls P f #[.slice (some ⟨blk,0,none⟩) zs.length cap] w fun e w'=>e= .returned (.slice (some ⟨blk,0,none⟩) (Y6 zs).length cap)∧∃q,w'=Sort.putRow (Value.int .i64) (Sort.ahead w q) blk 0 (Y6 zs++List.replicate (zs.length - (Y6 zs).length) 0).toArray
def Qjb (P:Program)(f:FuncId):Prop:=∀w:World,Calls P f #[.slice none 0 0] w fun e w'=>e= .returned (.slice none 0 0)∧w'=w
theorem QpH {P:Program}{f:FuncId}{E:TypeId}(hS:Qqu P f)(hN:Qjb P f)(xs:List Int)(hl:xs.length≤1000000000):FC P f [(false,[.ref 0])] [(0,some (.arr E .int xs))] 0 (Xe E .int (Y6 xs)):=fun gh w vs cx ha=>by
  obtain ⟨v,vs',rfl,⟨l,hl_,h1⟩,rfl⟩:=ha
  simp only[aB,and_true] at hl_
  subst hl_
  have hv:v=gh.h 0:=h1 ⟨_,rfl⟩
  subst hv
  have hO:Own (.sl E .int) w (gh.f 0) [gh.h 0] xs:=cx.en 0 _ rfl
  have alq:∀(y:List Int) q,Tab.al [(0,some (Ent.arr E .int y))] q→q=0:=fun y q ⟨e,he⟩=>by
    rw[Qq] at he
    split at he
    · assumption
    · cases he
  rcases hO with ⟨hf,hc,hx⟩ | ⟨g,cap,cur,fps,hf,hc,hb,hn,hcap,hsz,hL⟩
  · simp only [aB, and_true] at hc
    subst hx
    rw[hc]
    refine Calls.mono (hN w) fun e w' he=> ?_
    obtain ⟨rfl,rfl⟩:=he
    refine ⟨_,_,_,gh,rfl,⟨rfl,rfl⟩,⟨fun q e he=> ?_,fun q q' hq hq' hne=>absurd ((alq _ q hq).trans (alq _ q' hq').symm) hne,fun q hq=> ?_,fun q hq g hg=> ?_,fun g hg=>cx.nl g hg⟩,⟨_,rfl,fun _=>hc.symm⟩,
      ⟨ZP _,fun _ _ _=>rfl,fun g hg=> .inl hg,fun q hq g hg=> ?_⟩,fun q h _=>absurd h (b7 _)⟩
    · rw [Qq] at he
      split at he
      · rename_i e0; subst e0; cases he
        exact .inl ⟨hf,by rw[hc],rfl⟩
      · cases he
    · rw[alq _ q hq,hf]; exact bE
    · rw[alq _ q hq,hf] at hg; cases hg
    · rw[alq _ q hq,hf] at hg; cases hg
  · simp only [aB, and_true] at hc
    rw[cH] at hL
    obtain ⟨rfl,ht,hr⟩:=Qb0 hL
    have hg:g < w.heap.size:=(bH.1 hb).1
    rw[hc]
    have hm:xs.length≤9223372036854775807:=by unfold maxLen at hcap; omega
    refine Calls.mono (hS g cap xs w (holds_of_blockI hb ht) hm hn) fun e w' he=> ?_
    obtain ⟨rfl,n,rfl⟩:=he
    have hcl:=QhX xs
    have hlen:(Y6 xs++List.replicate (xs.length - (Y6 xs).length) (0:Int)).length=xs.length:=by simp; omega
    generalize hR:Y6 xs++List.replicate (xs.length - (Y6 xs).length) (0:Int)=row at*
    have hgrow:Sort.putRow (Value.int .i64) (Sort.ahead w n) g 0 row.toArray=Sort.grow (Sort.putRow (Value.int .i64) (Sort.ahead w n) g 0 row.toArray) #[]:=(Sort.grow_empty _).symm
    rw[hgrow]
    obtain ⟨k1,k2,k3,k4,k5⟩:=grownBy_sortedI (w:=w) (g:=g) (n:=n) (os:= #[]) row.toArray
    have h0:∀x:Int,x∈Y6 xs→x∈xs:=fun x hx=>Jr.1 hx
    refine ⟨_,_,_,⟨fun _=> .slice (some ⟨g,0,none⟩) (Y6 xs).length cap,gh.f,gh.N⟩,rfl,⟨rfl,rfl⟩,⟨fun q e he=> ?_,fun q q' hq hq' hne=>absurd ((alq _ q hq).trans (alq _ q' hq').symm) hne,fun q hq=> ?_,fun q hq g' hg'=> ?_,fun g' hg'=>bk (cx.nl g' hg') k4⟩,⟨_,rfl,fun _=>rfl⟩,
      ⟨⟨k1,k2,k3,k4⟩,fun g' h1 h2=> ?_,fun g' h1=> .inl h1,fun q hq g' hg'=> ?_⟩,fun q h _=>absurd h (b7 _)⟩
    · rw [Qq] at he
      split at he
      · rename_i e0; subst e0; cases he
        refine .inr ⟨g,cap,_,[],hf,rfl,heap_sortedI _ hb,by omega,hcap,by simpa [Sort.putCells] using hsz, ?_⟩
        show OwnL (Own .int _) [] (List.take ((Y6 xs).length*1) _) (Y6 xs)
        have ht2:=take_putCellsI cur row (by have:cur.size=cap*1:=hsz; omega)
        rw[cH,show (Y6 xs).length=min (Y6 xs).length row.length by omega,← List.take_take,ht2,← List.map_take,← hR,List.take_left' rfl]
        exact QgG fun x hx=>hr x (h0 x hx)
      · cases he
    · rw[alq _ q hq]; exact cx.nd 0 ⟨_,rfl⟩
    · rw[alq _ q hq] at hg'; exact cx.no 0 ⟨_,rfl⟩ g' hg'
    · exact k5 g' h1 fun e0=>h2 0 ⟨_,rfl⟩ (by rw[hf]; cases e0; exact aA ..)
    · rw[alq _ q hq] at hg'; exact .inr ⟨0,⟨_,rfl⟩,hg'⟩
def Qnx:Go.Shelf.Ren:=⟨fun | 189=>255 | 125=>228 | 257=>325 | 128=>304 | 129=>305 | 294=>363 | 295=>364 | 296=>365 | 297=>366 | 298=>367 | 299=>368 | 216=>369 | 300=>370 | 301=>371 | 328=>383 | 329=>353 | 330=>354 | 331=>384 | 332=>385 | 215=>306 | 343=>387 | n=>n,fun | 28=>95 | 3=>3 | 46=>253 | 0=>0 | 51=>321 | 53=>119 | 4=>4 | 183=>315 | 182=>314 | 131=>220 | 5=>5 | 9=>9 | 218=>360 | 222=>364 | 228=>383 | 229=>113 | n=>n,fun | n=>n⟩
theorem Qsv:Go.Proofs.Lays.n189 Tryz.prog Qnx:={
  mixed:=by kernel_rfl,
  f125:=Tryz.func228.trans (congrArg some (by kernel_rfl)),
  f128:=Tryz.func304.trans (congrArg some (by kernel_rfl)),
  f129:=Tryz.func305.trans (congrArg some (by kernel_rfl)),
  f189:=Tryz.func255.trans (congrArg some (by kernel_rfl)),
  f215:=Tryz.func306.trans (congrArg some (by kernel_rfl)),
  f216:=Tryz.func369.trans (congrArg some (by kernel_rfl)),
  f257:=Tryz.func325.trans (congrArg some (by kernel_rfl)),
  f294:=Tryz.func363.trans (congrArg some (by kernel_rfl)),
  f295:=Tryz.func364.trans (congrArg some (by kernel_rfl)),
  f296:=Tryz.func365.trans (congrArg some (by kernel_rfl)),
  f297:=Tryz.func366.trans (congrArg some (by kernel_rfl)),
  f298:=Tryz.func367.trans (congrArg some (by kernel_rfl)),
  f299:=Tryz.func368.trans (congrArg some (by kernel_rfl)),
  f300:=Tryz.func370.trans (congrArg some (by kernel_rfl)),
  f301:=Tryz.func371.trans (congrArg some (by kernel_rfl)),
  f328:=Tryz.func383.trans (congrArg some (by kernel_rfl)),
  f329:=Tryz.func353.trans (congrArg some (by kernel_rfl)),
  f330:=Tryz.func354.trans (congrArg some (by kernel_rfl)),
  f331:=Tryz.func384.trans (congrArg some (by kernel_rfl)),
  f332:=Tryz.func385.trans (congrArg some (by kernel_rfl)),
  f343:=Tryz.func387.trans (congrArg some (by kernel_rfl)),
  t0:=Tryz.underlying0,
  a0:=Tryz.isAgg0,
  z0:=Tryz.sizeOf0,
  v0:=Tryz.zeroValue0,
  t3:=Tryz.underlying3,
  a3:=Tryz.isAgg3,
  z3:=Tryz.sizeOf3,
  v3:=Tryz.zeroValue3,
  t4:=Tryz.underlying4,
  a4:=Tryz.isAgg4,
  z4:=Tryz.sizeOf4,
  v4:=Tryz.zeroValue4,
  t5:=Tryz.underlying5,
  a5:=Tryz.isAgg5,
  z5:=Tryz.sizeOf5,
  v5:=Tryz.zeroValue5,
  t9:=Tryz.underlying9,
  a9:=Tryz.isAgg9,
  z9:=Tryz.sizeOf9,
  v9:=Tryz.zeroValue9,
  t28:=Tryz.underlying95,
  a28:=Tryz.isAgg95,
  z28:=Tryz.sizeOf95,
  v28:=Tryz.zeroValue95,
  t46:=Tryz.underlying253,
  a46:=Tryz.isAgg253,
  z46:=Tryz.sizeOf253,
  v46:=Tryz.zeroValue253,
  t51:=Tryz.underlying321,
  a51:=Tryz.isAgg321,
  z51:=Tryz.sizeOf321,
  v51:=Tryz.zeroValue321,
  t53:=Tryz.underlying119,
  a53:=Tryz.isAgg119,
  z53:=Tryz.sizeOf119,
  v53:=Tryz.zeroValue119,
  t131:=Tryz.underlying220,
  a131:=Tryz.isAgg220,
  z131:=Tryz.sizeOf220,
  v131:=Tryz.zeroValue220,
  t182:=Tryz.underlying314,
  a182:=Tryz.isAgg314,
  z182:=Tryz.sizeOf314,
  v182:=Tryz.zeroValue314,
  t183:=Tryz.underlying315,
  a183:=Tryz.isAgg315,
  z183:=Tryz.sizeOf315,
  v183:=Tryz.zeroValue315,
  t218:=Tryz.underlying360,
  a218:=Tryz.isAgg360,
  z218:=Tryz.sizeOf360,
  v218:=Tryz.zeroValue360,
  t222:=Tryz.underlying364,
  a222:=Tryz.isAgg364,
  z222:=Tryz.sizeOf364,
  v222:=Tryz.zeroValue364,
  t228:=Tryz.underlying383,
  a228:=Tryz.isAgg383,
  z228:=Tryz.sizeOf383,
  v228:=Tryz.zeroValue383,
  t229:=Tryz.underlying113,
  a229:=Tryz.isAgg113,
  z229:=Tryz.sizeOf113,
  v229:=Tryz.zeroValue113}
theorem QtS:QqO Tryz.prog 255:=fun blk cap zs w hH hb hl=>calls_of_every_depth fun D=>AnyS.slices_Sort_int_in Qsv D blk 0 cap zs w hH hb hl
theorem Qpv:QiX Tryz.prog 255:=fun w=>Calls.mono (Any.slices_Sort_int_none Qsv none 0 w) fun _ _ ⟨h1,h2⟩=>⟨h1,h2▸Q5 _⟩
theorem Qrn (l:List Int)(hl:l.length≤1000000000):FC Tryz.prog 255 [(false,[.ref 0])] [(0,some (.arr 3 .int l))] 1 (Is (.tup []) [(0,some (.arr 3 .int (Vf l)))]):=QoL QtS Qpv l hl
def QgP:Go.Shelf.Ren:=⟨fun | 20=>256 | n=>n,fun | 22=>95 | 3=>3 | 4=>4 | 0=>0 | n=>n,fun | n=>n⟩
theorem QiK:Go.Proofs.Lays2.n20 Tryz.prog QgP:={
  mixed:=by kernel_rfl,
  f20:=Tryz.func256.trans (congrArg some (by kernel_rfl)),
  t0:=Tryz.underlying0,
  a0:=Tryz.isAgg0,
  z0:=Tryz.sizeOf0,
  v0:=Tryz.zeroValue0,
  t3:=Tryz.underlying3,
  a3:=Tryz.isAgg3,
  z3:=Tryz.sizeOf3,
  v3:=Tryz.zeroValue3,
  t4:=Tryz.underlying4,
  a4:=Tryz.isAgg4,
  z4:=Tryz.sizeOf4,
  v4:=Tryz.zeroValue4,
  t22:=Tryz.underlying95,
  a22:=Tryz.isAgg95,
  z22:=Tryz.sizeOf95,
  v22:=Tryz.zeroValue95,
  i3:=by kernel_rfl}
theorem QsT:Qqu Tryz.prog 256:=fun blk cap zs w hH h1 h2=>by
  have h:=calls_of_every_depth fun D=>AnyS.slices_Compact_int_in QiK D blk 0 cap zs w hH h1 h2
  rw[QkR] at h
  exact h
theorem Qpl:Qjb Tryz.prog 256:=fun w=>calls_of_every_depth fun D=>AnyS.slices_Compact_int_empty_in QiK D none 0 w
theorem Qly (l:List Int)(hl:l.length≤1000000000):FC Tryz.prog 256 [(false,[.ref 0])] [(0,some (.arr 3 .int l))] 0 (Xe 3 .int (Y6 l)):=QpH QsT Qpl l hl
end Go.Proofs.YtjaadeknhofhpaaGreat
namespace Go.Proofs.YtjaadeknhofhpaaGreat
open Go.RowKit
section
variable {E:TypeId}{e:Ty}{w:World}{f:Hdr→List e.Den}
theorem QeX:∀{l vs:List Hdr},l.Sublist vs→∀{fp:List Nat},OwnL (Own (.sl E e) w) fp (vs.map hdV) (vs.map f)→∃fp',fp'.Sublist fp∧OwnL (Own (.sl E e) w) fp' (l.map hdV) (l.map f)
  | _,_, .slnil,fp,h=>⟨[],List.nil_sublist _,⟨rfl,rfl⟩⟩
  | _,_, .cons a s,fp,h=>by
    obtain ⟨f1,f2,c1,c2,rfl,h2,h3,h4⟩:=h
    obtain ⟨z,rfl⟩:=Qds h3
    simp only[bf,bR,cn,aB] at h2
    obtain ⟨_,rfl⟩:=h2
    obtain ⟨fp',k1,k2⟩:=QeX s h4
    exact ⟨fp',k1.trans (List.sublist_append_right ..),k2⟩
  | _,_, .cons_cons a s,fp,h=>by
    obtain ⟨f1,f2,c1,c2,rfl,h2,h3,h4⟩:=h
    obtain ⟨z,rfl⟩:=Qds h3
    simp only[bf,bR,cn,aB] at h2
    obtain ⟨h5,rfl⟩:=h2
    obtain ⟨fp',k1,k2⟩:=QeX s h4
    exact ⟨f1++fp',(List.Sublist.refl _).append k1,⟨f1,fp',[hdV z],_,rfl,by rw[bf,h5]; rfl,h3,k2⟩⟩
end
section
variable {A:Amb}{P:Program}{s:St}{Q:Exit→St→Prop}{c:Code}
theorem Qvg {x:Operand}{p:Nat}{E:TypeId}{e:Ty}{vs:List Hdr}{f:Hdr→List e.Den}{v:Hdr}(hx:Evl A s x (.dat .vl v))(hp:s.tab.ent p=some (.pl true (.sl E e) vs f))(hv:v∈vs):EvB A s x (false,[.dat (.sl E e) (f v)]):=fun gh a w r=>by
  obtain ⟨_,h3⟩:=r.cx.en p _ hp
  have h1:Rd gh.N .vl w [a.eval x] v:=hx gh a w r
  have h2:[a.eval x]=[hdV v]:=h1.rep
  obtain ⟨fv,k1,k2⟩:=Qhk h3 v hv
  refine ⟨_,rfl, ?_⟩
  have h4:Own (.sl E e) w fv [a.eval x] (f v):=by rw[h2]; exact k1
  exact h4.rd fun g hg=>r.cx.lt ⟨_,hp⟩ g (k2 g hg)
end
section
variable {A:Amb}{P:Program}{s:St}{f:FuncId}{xs:List Operand}{tys:Array TypeId}{args:List (Bool×List LV)}{d:Nat}{ty:TypeId}{pos:String}{af:Array Edge}{g:Option (Nat×Bool)}{pv:PV}
end
end Go.Proofs.YtjaadeknhofhpaaGreat
namespace Go.Proofs.YtjaadeknhofhpaaGreat
open Go.RowKit
def ltP:List Int→List Int→Bool
  | [],[]=>false
  | [],_ :: _=>true
  | _ :: _,[]=>false
  | x :: a,y :: b=>if x < y then true else if y < x then false else ltP a b
def QuH (x y:Int):Int:=if x < y then -1 else if y < x then 1 else 0
def Quj:List Int→List Int→Int
  | [],[]=>0
  | [],_ :: _=> -1
  | _ :: _,[]=>1
  | x :: a,y :: b=>if QuH x y=0 then Quj a b else QuH x y
end Go.Proofs.YtjaadeknhofhpaaGreat
namespace Go.Proofs.YtjaadeknhofhpaaGreat
open Go.RowKit Go.Sort Go.Shelf Go.Lib
def QvP (xs:List (List Int)):List (List Int):=xs.mergeSort fun a b=> !ltP b a
section
variable {α:Type}[Inhabited α]{enc:α→Value}{w:World}{g n:Nat}{os:Array Obj}
end
def Qvu (P:Program)(f g:FuncId):Prop:=∀(α:Type) [Inhabited α] (enc:α→Value),(∀x,(enc x).oneCell'=true)→∀cf:α→α→Int,SWO (ltOf cf)→∀(blk cap:Nat) (d:Array α) (w:World),CmpLays1 P g #[] enc cf blk 0 d.size w→Holds enc w blk 0 d→
  blk < w.heap.size→d.size < 4611686018427387904→Calls P f #[.slice (some ⟨blk,0,none⟩) d.size cap, .func (.func g) #[] #[]] w fun e w'=>e= .returned (.tuple #[])∧∃d' n os,PermIn 0 d.size d d'∧SortedIn (ltOf cf) 0 d.size d'∧w'=sortWorld enc w blk 0 n d' os
def Qt4 (P:Program)(f:FuncId):Prop:=∀(p:Option Addr) (cap:Nat) (fv:Value) (w:World),Calls P f #[.slice p 0 cap,fv] w fun e w'=>e= .returned (.tuple #[])∧w'=w
def Quz (P:Program)(g:FuncId)(E:TypeId):Prop:=∀(u v:Value) (a b:List Int) (w:World),Rep (.sl E .int) w [u] a→Rep (.sl E .int) w [v] b→Calls P g #[u,v] w fun e w'=>e= .returned (.int .i64 (Quj a b))∧w'=w
def QsY:Go.Shelf.Ren:=⟨fun | 6=>121 | 15=>228 | 14=>227 | 28=>304 | 29=>305 | 20=>296 | 21=>297 | 22=>298 | 23=>299 | 24=>300 | 25=>301 | 26=>302 | 27=>303 | 46=>352 | 47=>353 | 48=>354 | 49=>355 | 50=>356 | 57=>382 | n=>n,fun | 22=>79 | 24=>95 | 25=>159 | 3=>3 | 39=>253 | 0=>0 | 53=>321 | 55=>119 | 4=>4 | 46=>315 | 45=>314 | 50=>220 | 5=>5 | 9=>9 | 66=>360 | 70=>364 | 76=>383 | 77=>113 | n=>n,fun | n=>n⟩
end Go.Proofs.YtjaadeknhofhpaaGreat
namespace Go.Proofs.YtjaadeknhofhpaaGreat
open Go.RowKit
section
variable {N:Nat→Prop}{w:World}{e:Ty}
theorem FzL.len:∀{vs:List Hdr} {xs:List e.Den},FzL N w e vs xs→vs.length=xs.length
  | [],xs,h=>by rw[show xs=[] from h]; rfl
  | v :: vs,_,⟨x,r,h1,_,h3⟩=>by rw[h1,ao,ao,FzL.len h3]
theorem FzL.app:∀{vs:List Hdr} {xs:List e.Den} {vs2:List Hdr} {ys:List e.Den},FzL N w e vs xs→FzL N w e vs2 ys→FzL N w e (vs++vs2) (xs++ys)
  | [],_,_,_,h,k=>by rw[show _=[] from h]; exact k
  | v :: vs,_,_,_,⟨x,r,h1,h2,h3⟩,k=>⟨x,r++_,by rw[h1]; rfl,h2,FzL.app h3 k⟩
theorem FzL.at:∀{vs:List Hdr} {xs:List e.Den} {j:Nat} {y:e.Den},FzL N w e vs xs→xs[j]? =some y→∃z,vs[j]? =some z∧Rd N e w [hdV z] y
  | [],_,_,_,h,hy=>by rw[show _=[] from h] at hy; cases hy
  | v :: vs,_,0,y,⟨x,r,h1,h2,h3⟩,hy=>by subst h1; cases hy; exact ⟨v,rfl,h2⟩
  | v :: vs,_,j+1,y,⟨x,r,h1,h2,h3⟩,hy=>by subst h1; exact FzL.at (j:=j) h3 hy
theorem FzL.of {f:Hdr→e.Den}:∀{vs:List Hdr},(∀v∈vs,Rd N e w [hdV v] (f v))→FzL N w e vs (vs.map f)
  | [],_=>rfl
  | v :: vs,h=>⟨f v,vs.map f,rfl,h v (aA ..),FzL.of fun u hu=>h u (ax _ hu)⟩
theorem Qtj {E:TypeId}{e:Ty}:∀{vs:List Hdr} {xs:List (List e.Den)},FzL N w (.sl E e) vs xs→vs.map (rdF E e w)=xs∧∀v∈vs,Rd N (.sl E e) w [hdV v] (rdF E e w v)
  | [],_,h=>⟨by rw[show _=[] from h]; rfl,fun _ h=>by cases h⟩
  | v :: vs,_,⟨x,r,h1,h2,h3⟩=>by
    obtain ⟨k1,k2⟩:=Qtj h3
    have h4:rdF E e w v=x:=QdF h2.rep
    refine ⟨by rw[bf,k1,h4,h1],fun u hu=> ?_⟩
    rcases aH.1 hu with rfl | hu
    · rw[h4]; exact h2
    · exact k2 u hu
end
section
variable {A:Amb}{P:Program}{s:St}
end
section
variable {A:Amb}{P:Program}{s:St}{x y:Operand}{d:Nat}{T ty:TypeId}{pos:String}{af:Array Edge}{g:Option (Nat×Bool)}
@[reducible] def Qvn (s:St) (d t:Nat) (used:List Nat) (E:TypeId) (e:Ty) (xs:List e.Den):St:=⟨(d,lf (.ref t)) :: s.tm,(t,some (.fz E e xs)) :: (KO used++s.tab)⟩
end
end Go.Proofs.YtjaadeknhofhpaaGreat
