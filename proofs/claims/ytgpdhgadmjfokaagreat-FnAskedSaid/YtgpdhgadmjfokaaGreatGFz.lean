/- Abstract states: a slice of one's own, of slices: its cells as such, what they lead to apart. No program is named here. -/
import Derived.Test.YtgpdhgadmjfokaaGreatGSs
import Derived.Shelf.Lays
import Derived.Shelf.Lays2
import Derived.Shelf.Slices.In.SortNone
import Derived.Shelf.Slices.In.CompactI
import Derived.Test.YtgpdhgadmjfokaaGreatGApp
import Derived.Shelf.SlSortCmp.NoneTotal
import Derived.Shelf.SlLaysF
set_option linter.unusedSimpArgs false
set_option linter.unusedVariables false
set_option linter.unusedSectionVars false
namespace Go.Proofs.YtgpdhgadmjfokaaGreat
open Go.RowKit
theorem H4:∀{t:Ty} {w:World} {cs:List Value} {x y:t.Den},Rep t w cs x→Rep t w cs y→x=y
  | .int,_,_,x,y,h,k=>by have h1:=h.1; have h2:=k.1; rw[h1] at h2; simpa using h2
  | .bool,_,_,x,y,h,k=>by have h1:_=_:=h; have h2:_=_:=k; rw[h1] at h2; simpa using h2
  | .str,_,_,x,y,h,k=>by have h1:=h.1; have h2:=k.1; rw[h1] at h2; simpa using h2
  | .u8,_,_,x,y,h,k=>by
    have h1:_=_:=h; have h2:_=_:=k; rw[h1] at h2
    simp only[aE,Value.int.injEq,and_true,true_and] at h2
    exact UInt8.toNat_inj.1 (by omega)
  | .vl,_,_,x,y,h,k=>by
    have h1:_=_:=h; have h2:_=_:=k; rw[h1] at h2
    exact Qi6 (by simpa using h2)
  | .sl E e,w,cs,xs,ys,⟨A,c,h1,h2,h3,h4⟩,⟨A',c',k1,k2,k3,k4⟩=>by
    rw[h1] at k1
    simp only[aE,Value.slice.injEq,and_true] at k1
    obtain ⟨rfl,hl,rfl⟩:=k1
    apply bL
    intro i
    rcases cP i xs.length with hi | hi
    · obtain ⟨b, o, e1, g1⟩ := h4 (by omega)
      obtain ⟨b',o',e2,g2⟩:=k4 (by omega)
      rw[e1] at e2
      cases e2
      obtain ⟨ds,r1,r2⟩:=g1 i xs[i] (aa hi)
      obtain ⟨ds',s1,s2⟩:=g2 i ys[i] (aa (by omega))
      have hd:ds=ds':=by
        apply bL
        intro j
        have l1:=r1.len
        have l2:=s1.len
        rcases cP j e.wd with hj | hj
        · have a1 := r2 j ds[j] (aa (by omega))
          have a2:=s2 j ds'[j] (aa (by omega))
          rw[a1] at a2
          rw[aa (by omega),aa (by omega)]
          exact a2
        · rw[bF (by omega),bF (by omega)]
      subst hd
      rw[aa hi,aa (by omega),H4 r1 s1]
    · rw[bF hi,bF (by omega)]
  | .pr a b,w,cs,x,y,⟨l,r,h1,h2,h3⟩,⟨l',r',k1,k2,k3⟩=>by
    rw[h1] at k1
    obtain ⟨rfl,rfl⟩:=List.append_inj k1 (by rw[h2.len,k2.len])
    exact Prod.ext (H4 h2 k2) (H4 h3 k3)
theorem Qbk {E:TypeId}{e:Ty}{w:World}{fp:List Nat}{cs:List Value}{x:List e.Den}(h:Own (.sl E e) w fp cs x):∃v:Hdr,cs=[hdV v]:=by
  rcases h with ⟨_,h,_⟩ | ⟨g,cap,cur,fps,_,h,_⟩
  · exact ⟨none,h⟩
  · exact ⟨some (g,0,x.length,cap),h⟩
open Classical in
noncomputable def rdF (E:TypeId) (e:Ty) (w:World) (v:Hdr):List e.Den:=if h:∃x,Rep (.sl E e) w [hdV v] x then h.choose else []
theorem Qbu {E:TypeId}{e:Ty}{w:World}{v:Hdr}{x:List e.Den}(h:Rep (.sl E e) w [hdV v] x):rdF E e w v=x:=by
  have hx:∃x,Rep (.sl E e) w [hdV v] x:=⟨x,h⟩
  unfold rdF
  rw[dif_pos hx]
  exact H4 hx.choose_spec h
theorem QcG {E:TypeId}{e:Ty}{w:World}:∀{xs:List (List e.Den)} {fp:List Nat} {cs:List Value},OwnL (Own (.sl E e) w) fp cs xs→∃vs:List Hdr,cs=vs.map hdV∧vs.map (rdF E e w)=xs
  | [],_,_,h=>⟨[],h.2,rfl⟩
  | x :: xs,_,_,⟨f1,f2,c1,c2,h1,h2,h3,h4⟩=>by
    obtain ⟨v,rfl⟩:=Qbk h3
    obtain ⟨vs,rfl,k2⟩:=QcG h4
    exact ⟨v :: vs,by rw[h2]; rfl,by rw[bc,k2,Qbu h3.rep]⟩
theorem H2 {E:TypeId}{e:Ty}{w:World}{f:Hdr→List e.Den}:∀{vs:List Hdr} {fp:List Nat},OwnL (Own (.sl E e) w) fp (vs.map hdV) (vs.map f)→∀v∈vs,∃fv,Own (.sl E e) w fv [hdV v] (f v)∧∀g∈fv,g∈fp
  | [],_,_,v,hv=>by cases hv
  | u :: vs,fp,h,v,hv=>by
    obtain ⟨f1,f2,c1,c2,rfl,h2,h3,h4⟩:=h
    obtain ⟨z,rfl⟩:=Qbk h3
    simp only[bc,cD,cG,aE] at h2
    obtain ⟨h5,rfl⟩:=h2
    rcases aJ.1 hv with rfl | hv
    · exact ⟨f1,by rw[h5]; exact h3,fun g hg=>aX _ hg⟩
    · obtain ⟨fv, k1, k2⟩ := H2 h4 v hv
      exact ⟨fv,k1,fun g hg=>aW _ (k2 g hg)⟩
theorem QiW {w:World}:∀(vs:List Hdr),OwnL (Own .vl w) [] (vs.map hdV) vs
  | []=>⟨rfl,rfl⟩
  | v :: vs=>⟨[],[],[hdV v],vs.map hdV,rfl,rfl,⟨rfl,rfl⟩,QiW vs⟩
theorem Qfd {E E':TypeId}{e:Ty}{w:World}{fp:List Nat}{v:Value}{xs:List (List e.Den)}(h:Own (.sl E (.sl E' e)) w fp [v] xs):
    ∃fg fi vs f,fp=fg++fi∧Own (.sl E .vl) w fg [v] vs∧OwnL (Own (.sl E' e) w) fi (vs.map hdV) (vs.map f)∧vs.map f=xs:=by
  rcases h with ⟨rfl,h,rfl⟩ | ⟨g,cap,cur,fps,rfl,h1,h2,h3,h4,h5,h6⟩
  · exact ⟨[],[],[],fun _=>[],rfl, .inl ⟨rfl,h,rfl⟩,⟨rfl,rfl⟩,rfl⟩
  · obtain ⟨vs, k1, k2⟩ := QcG h6
    have hl:vs.length=xs.length:=by rw[← k2,aN]
    rw[k1] at h6
    refine ⟨[g],fps,vs,rdF E' e w,rfl, .inr ⟨g,cap,cur,[],rfl,by rw[hl]; exact h1,h2,by omega,h4,h5, ?_⟩,by rw[k2]; exact h6,k2⟩
    have:(cur.toList.take (vs.length*Ty.wd .vl))=vs.map hdV:=by rw[hl]; exact k1
    rw[this]
    exact QiW vs
section
variable {A:Amb}{P:Program}{s:St}{Q:Exit→St→Prop}{c:Code}
theorem R.pool {q:Nat}(p:Nat){E E':TypeId}{e:Ty}{xs:List (List e.Den)}{a:Act}{w:World}(he:s.tab.ent q=some (.arr E (.sl E' e) xs))(hfr:Fresh s p)(hk:A.k0≤p)(r:R A s a w):
    ∃(vs:List Hdr) (f:Hdr→List e.Den),vs.map f=xs∧R A ⟨s.tm,(p,some (.pl false (.sl E' e) vs f)) :: (q,some (.arr E .vl vs)) :: s.tab⟩ a w:=by
  obtain ⟨gh,r⟩:=r
  have hq:s.tab.al q:=⟨_,he⟩
  have hne:q≠p:=fun h=>hfr.al (h▸hq)
  have hO:Own (.sl E (.sl E' e)) w (gh.f q) [gh.h q] xs:=r.cx.en q _ he
  obtain ⟨fg,fi,vs,f,h1,h2,h3,h4⟩:=Qfd hO
  have hnd:=r.cx.nd q hq
  rw[h1] at hnd
  obtain ⟨n1,n2,n3⟩:=bd.1 hnd
  have mg:∀g∈fg,g∈gh.f q:=fun g hg=>by rw[h1]; exact aX _ hg
  have mi:∀g∈fi,g∈gh.f q:=fun g hg=>by rw[h1]; exact aW _ hg
  have hal:∀t,Tab.al ((p,some (.pl false (.sl E' e) vs f)) :: (q,some (.arr E .vl vs)) :: s.tab) t→t=p∨(t≠p∧s.tab.al t):=fun t ⟨x,hx⟩=>by
    by_cases e1:t=p
    · exact .inl e1
    · refine .inr ⟨e1, ?_⟩
      rw[Qe,if_neg e1,Qe] at hx
      by_cases e2:t=q
      · rw[e2]; exact hq
      · rw[if_neg e2] at hx; exact ⟨_,hx⟩
  let gh':Gh:=⟨fun t=>if t=p then .slice none 0 0 else gh.h t,fun t=>if t=p then [] else if t=q then fg else gh.f t,fun g=>gh.N g∨g∈fi⟩
  have fq:gh'.f q=fg:=by show (if q=p then [] else if q=q then fg else gh.f q)=fg; rw[if_neg hne,if_pos rfl]
  have fp:gh'.f p=[]:=if_pos rfl
  have fo:∀t,t≠p→t≠q→gh'.f t=gh.f t:=fun t e1 e2=>by show (if t=p then [] else if t=q then fg else gh.f t)=_; rw[if_neg e1,if_neg e2]
  have hh:∀t,t≠p→gh'.h t=gh.h t:=fun t e1=>if_neg e1
  have sub:∀t,t≠p→∀g∈gh'.f t,g∈gh.f t:=fun t e1 g hg=>by
    by_cases e2:t=q
    · rw[e2,fq] at hg; rw[e2]; exact mg g hg
    · rwa [fo t e1 e2] at hg
  have hN:∀g,gh.N g→gh'.N g∧w.heap[g]? =w.heap[g]? :=fun g h=>⟨.inl h,rfl⟩
  refine ⟨vs,f,h4,gh',r.step ⟨fun t x hx=> ?_,fun t t' ht ht' hn g hg hg'=> ?_,fun t ht=> ?_,fun t ht g hg hgN=> ?_,fun g hgN=> ?_⟩ (fun t ht=> ?_) hN (Q2 w) (fun _ _ _=>rfl) (fun g hgN=> ?_) fun t ht g hg=> ?_⟩
  · rw [Qe] at hx
    by_cases e1:t=p
    · rw [if_pos e1] at hx
      cases hx
      rw[e1]
      refine ⟨if_pos rfl,fp,fun v hv=> ?_⟩
      obtain ⟨fv,k1,k2⟩:=H2 h3 v hv
      exact k1.rd fun g hg=> .inr (k2 g hg)
    · rw [if_neg e1, Qe] at hx
      by_cases e2:t=q
      · rw [if_pos e2] at hx
        cases hx
        show Own (.sl E .vl) w (gh'.f t) [gh'.h t] vs
        rw[e2,fq,hh q hne]
        exact h2
      · rw [if_neg e2] at hx
        refine (r.cx.en t x hx).mono (fun r' hr' ha=> ?_) hN (hh t e1) (fo t e1 e2) fun _ _=>rfl
        have e3:r'≠p:=fun h=>hfr.en t x hx (h▸hr')
        rcases hal r' ha with h | ⟨_,h⟩
        · exact absurd h e3
        · exact ⟨h,hh r' e3⟩
  · rcases hal t ht with e1 | ⟨e1, a1⟩
    · rw[e1,fp] at hg; cases hg
    · rcases hal t' ht' with e2 | ⟨e2, a2⟩
      · rw[e2,fp] at hg'; cases hg'
      · exact r.cx.dj t t' a1 a2 hn g (sub t e1 g hg) (sub t' e2 g hg')
  · rcases hal t ht with e1 | ⟨e1, a1⟩
    · rw[e1,fp]; exact bH
    · by_cases e2 : t = q
      · rw[e2,fq]; exact n1
      · rw[fo t e1 e2]; exact r.cx.nd t a1
  · rcases hal t ht with e1 | ⟨e1, a1⟩
    · rw[e1,fp] at hg; cases hg
    · rcases hgN with hgN | hgN
      · exact r.cx.no t a1 g (sub t e1 g hg) hgN
      · by_cases e2 : t = q
        · rw[e2,fq] at hg; exact n3 g hg g hgN rfl
        · exact r.cx.dj t q a1 hq e2 g (sub t e1 g hg) (mi g hgN)
  · rcases hgN with hgN | hgN
    · exact r.cx.nl g hgN
    · exact r.cx.lt hq g (mi g hgN)
  · rcases hal t ht with e1 | ⟨e1, a1⟩
    · rw[e1]; exact .inr ⟨hfr,hk⟩
    · exact .inl ⟨a1,hh t e1,fun _=>rfl⟩
  · rcases hgN with hgN | hgN
    · exact .inl hgN
    · exact .inr (.inr ⟨q,hq,mi g hgN,fun hl=>r.xn g hl (r.ox q hq g (mi g hgN) hl)⟩)
  · rcases hal t ht with e1 | ⟨e1, a1⟩
    · rw[e1,fp] at hg; cases hg
    · exact .inr ⟨t,a1,sub t e1 g hg⟩
theorem AC.pool {q:Nat}(p:Nat){E E':TypeId}{e:Ty}{xs:List (List e.Den)}(he:s.tab.ent q=some (.arr E (.sl E' e) xs))(hfr:Fresh s p)(hk:A.k0≤p)
    (k:∀(vs:List Hdr) (f:Hdr→List e.Den),vs.map f=xs→AC A P c Q ⟨s.tm,(p,some (.pl false (.sl E' e) vs f)) :: (q,some (.arr E .vl vs)) :: s.tab⟩):AC A P c Q s:=fun a w r=>by
  obtain ⟨vs,f,h,r'⟩:=R.pool p he hfr hk r
  exact k vs f h a w r'
theorem AL.pool {ops:Array Oper}{l:List Oper}{q:Nat}(p:Nat){E E':TypeId}{e:Ty}{xs:List (List e.Den)}(he:s.tab.ent q=some (.arr E (.sl E' e) xs))(hfr:Fresh s p)(hk:A.k0≤p)
    (k:∀(vs:List Hdr) (f:Hdr→List e.Den),vs.map f=xs→AL A P ops l Q ⟨s.tm,(p,some (.pl false (.sl E' e) vs f)) :: (q,some (.arr E .vl vs)) :: s.tab⟩):AL A P ops l Q s:=fun a w r=>by
  obtain ⟨vs,f,h,r'⟩:=R.pool p he hfr hk r
  exact k vs f h a w r'
theorem Evl.pl {x:Operand}{p:Nat}{e:Ty}{vs:List Hdr}{f:Hdr→e.Den}{v:Hdr}(hx:Evl A s x (.dat .vl v))(hp:s.tab.ent p=some (.pl false e vs f))(hv:v∈vs):Evl A s x (.dat e (f v)):=fun gh a w r=>by
  obtain ⟨_,_,h3⟩:=r.cx.en p _ hp
  have h1:Rd gh.N .vl w [a.eval x] v:=hx gh a w r
  have h2:[a.eval x]=[hdV v]:=h1.rep
  show Rd gh.N e w [a.eval x] (f v)
  rw[h2]
  exact h3 v hv
theorem QkJ {i q p:Nat}{E E':TypeId}{e:Ty}{zs vs:List Hdr}{f:Hdr→List e.Den}(hi:lk s.tm i=some (lf (.ref q)))(he:s.tab.ent q=some (.arr E .vl zs))(hp:s.tab.ent p=some (.pl false (.sl E' e) vs f))(hz:∀z∈zs,z∈vs):
    Wk A s ⟨(i,lf (.dat (.sl E (.sl E' e)) (zs.map f))) :: s.tm,(q,none) :: s.tab⟩:=fun a w r=>by
  obtain ⟨gh,r⟩:=r
  obtain ⟨v,h1,l,h2,h3⟩:=r.tm i _ hi
  simp only[aE,and_true] at h2
  subst h2
  have hv:v=gh.h q:=h3 ⟨_,he⟩
  have hO:Own (.sl E .vl) w (gh.f q) [gh.h q] zs:=r.cx.en q _ he
  obtain ⟨_,_,k3⟩:=r.cx.en p _ hp
  refine ⟨_,(r.freeze he).know h1 (pv:=lf (.dat (.sl E (.sl E' e)) (zs.map f))) ⟨_,rfl, ?_⟩⟩
  rw[hv]
  show Rd (fun g=>gh.N g∨g∈gh.f q) (.sl E (.sl E' e)) w [gh.h q] (zs.map f)
  obtain ⟨wM,m1,m2⟩:=Vu (fun g=>gh.N g∨g∈gh.f q) w
  refine ⟨wM,m1, ?_⟩
  rcases hO with ⟨_,g2,g3⟩ | ⟨g,cap,cur,fps,g1,g2,g3,g4,g5,g6,g7⟩
  · subst g3
    exact ⟨none,0,g2,aQ _,aU _,fun h=>absurd h (by simp)⟩
  · refine ⟨_, cap, by rw [aN]; exact g2, by rw [aN]; exact g4, g5, fun _ => ⟨g, 0, rfl, fun j y hy => ?_⟩⟩
    rw[bg] at hy
    obtain ⟨z,hz1,rfl⟩:=bV.1 hy
    obtain ⟨wN,w1,w2⟩:=k3 z (hz z (aj hz1))
    refine ⟨[hdV z],w2.kp (w1.kp fun g' hg'=>m2 g' (.inl hg')),fun b u hu=> ?_⟩
    obtain ⟨fv,ds,o1,o2,o3⟩:=g7.get j z hz1
    have o4:ds=[hdV z]:=o1.2
    subst o4
    have o5:=o3 b u hu
    rw[b9] at o5
    split at o5
    · rw [d8 (m2 g (.inr (by rw [g1]; simp)))]
      simp only[World.cell?,g3]
      simpa using o5
    · cases o5
end
end Go.Proofs.YtgpdhgadmjfokaaGreat
namespace Go.Proofs.YtgpdhgadmjfokaaGreat
open Go.RowKit
section
variable {α:Type}[DecidableEq α][Inhabited α]
omit [Inhabited α] in
theorem Qda (y:α):∀l:List α,Yg (l++[y])=Yg l++(if l.getLast? =some y then [] else [y])
  | []=>by simp[Yg]
  | [x]=>by
    by_cases h:x=y
    · simp[Yg,h]
    · simp[Yg,h]
  | x :: z :: l=>by
    have ih:=Qda y (z :: l)
    have hl:(x :: z :: l).getLast? =(z :: l).getLast? :=by simp
    rw[hl]
    show (if x=z then Yg ((z :: l)++[y]) else x :: Yg ((z :: l)++[y]))=(if x=z then Yg (z :: l) else x :: Yg (z :: l))++_
    rw[ih]
    split <;> simp
theorem Ja (zs:List α):∀m,m≤zs.length→Lib.compactUpTo zs.toArray m=Yg (zs.take m)
  | 0,_=>by simp[Lib.compactUpTo,Yg]
  | m+1,hm=>by
    have hg:zs[m]? =some zs[m]:=aa (by omega)
    have hd:(zs.toArray)[m]! =zs[m]:=by rw[getElem!_pos _ m (by simp; omega)]; simp
    rw[Lib.compactUpTo_succ,Ja zs m (by omega),Qs hg,Qda,hd]
    refine congrArg _ ?_
    cases m with
    | zero=>simp[Lib.keeps]
    | succ k=>
      have hd2:(zs.toArray)[k]! =zs[k]:=by rw[getElem!_pos _ k (by simp; omega)]; simp
      have hl:(zs.take (k+1)).getLast? =some zs[k]:=by
        rw[List.getLast?_eq_getElem?,aw,show min (k+1) zs.length - 1=k by omega,List.getElem?_take_of_lt (by omega)]
        exact aa (by omega)
      rw[hl]
      have hkp:Lib.keeps zs.toArray (k+1)= !decide (zs[k]=zs[k+1]):=by
        unfold Lib.keeps
        rw[hd,show k+1 - 1=k from rfl,hd2]
        by_cases e:zs[k]=zs[k+1]
        · simp[e]
        · simp[e,Ne.symm e]
      rw[hkp]
      by_cases e:zs[k]=zs[k+1]
      · simp[e]
      · simp[e]
theorem QhM (zs:List α):Lib.compact zs=Yg zs:=by
  have:=Ja zs zs.length (aQ _)
  rw[List.take_length] at this
  exact this
omit [Inhabited α] in
theorem QfI:∀l:List α,(Yg l).length≤l.length
  | []=>aQ _
  | [_]=>aQ _
  | x :: y :: l=>by
    have:=QfI (y :: l)
    unfold Yg
    split
    · simp only[ax] at*; omega
    · simp only[ax] at*; omega
end
def QmE (P:Program)(f:FuncId):Prop:=∀(blk cap:Nat) (zs:List Int) (w:World),Sort.Holds (Value.int .i64) w blk 0 zs.toArray→zs.length≤9223372036854775807→zs.length≤cap→
  Calls P f #[.slice (some ⟨blk,0,none⟩) zs.length cap] w fun e w'=>e= .returned (.slice (some ⟨blk,0,none⟩) (Yg zs).length cap)∧∃q,w'=Sort.putRow (Value.int .i64) (Sort.ahead w q) blk 0 (Yg zs++List.replicate (zs.length - (Yg zs).length) 0).toArray
def QeF (P:Program)(f:FuncId):Prop:=∀w:World,Calls P f #[.slice none 0 0] w fun e w'=>e= .returned (.slice none 0 0)∧w'=w
theorem QmB {P:Program}{f:FuncId}{E:TypeId}(hS:QmE P f)(hN:QeF P f)(xs:List Int)(hl:xs.length≤1000000000):FC P f [(false,[.ref 0])] [(0,some (.arr E .int xs))] 0 (Yo E .int (Yg xs)):=fun gh w vs cx ha=>by
  obtain ⟨v,vs',rfl,⟨l,hl_,h1⟩,rfl⟩:=ha
  simp only[aE,and_true] at hl_
  subst hl_
  have hv:v=gh.h 0:=h1 ⟨_,rfl⟩
  subst hv
  have hO:Own (.sl E .int) w (gh.f 0) [gh.h 0] xs:=cx.en 0 _ rfl
  have alq:∀(y:List Int) q,Tab.al [(0,some (Ent.arr E .int y))] q→q=0:=fun y q ⟨e,he⟩=>by
    rw[Qe] at he
    split at he
    · assumption
    · cases he
  rcases hO with ⟨hf,hc,hx⟩ | ⟨g,cap,cur,fps,hf,hc,hb,hn,hcap,hsz,hL⟩
  · simp only [aE, and_true] at hc
    subst hx
    rw[hc]
    refine Calls.mono (hN w) fun e w' he=> ?_
    obtain ⟨rfl,rfl⟩:=he
    refine ⟨_,_,_,gh,rfl,⟨rfl,rfl⟩,⟨fun q e he=> ?_,fun q q' hq hq' hne=>absurd ((alq _ q hq).trans (alq _ q' hq').symm) hne,fun q hq=> ?_,fun q hq g hg=> ?_,fun g hg=>cx.nl g hg⟩,⟨_,rfl,fun _=>hc.symm⟩,
      ⟨Q2 _,fun _ _ _=>rfl,fun g hg=> .inl hg,fun q hq g hg=> ?_⟩,fun q h _=>absurd h (br _)⟩
    · rw [Qe] at he
      split at he
      · rename_i e0; subst e0; cases he
        exact .inl ⟨hf,by rw[hc],rfl⟩
      · cases he
    · rw[alq _ q hq,hf]; exact bH
    · rw[alq _ q hq,hf] at hg; cases hg
    · rw[alq _ q hq,hf] at hg; cases hg
  · simp only [aE, and_true] at hc
    rw[cR] at hL
    obtain ⟨rfl,ht,hr⟩:=JY hL
    have hg:g < w.heap.size:=(cc.1 hb).1
    rw[hc]
    have hm:xs.length≤9223372036854775807:=by unfold maxLen at hcap; omega
    refine Calls.mono (hS g cap xs w (holds_of_blockI hb ht) hm hn) fun e w' he=> ?_
    obtain ⟨rfl,n,rfl⟩:=he
    have hcl:=QfI xs
    have hlen:(Yg xs++List.replicate (xs.length - (Yg xs).length) (0:Int)).length=xs.length:=by simp; omega
    generalize hR:Yg xs++List.replicate (xs.length - (Yg xs).length) (0:Int)=row at*
    have hgrow:Sort.putRow (Value.int .i64) (Sort.ahead w n) g 0 row.toArray=Sort.grow (Sort.putRow (Value.int .i64) (Sort.ahead w n) g 0 row.toArray) #[]:=(Sort.grow_empty _).symm
    rw[hgrow]
    obtain ⟨k1,k2,k3,k4,k5⟩:=grownBy_sortedI (w:=w) (g:=g) (n:=n) (os:= #[]) row.toArray
    have h0:∀x:Int,x∈Yg xs→x∈xs:=fun x hx=>VT.1 hx
    refine ⟨_,_,_,⟨fun _=> .slice (some ⟨g,0,none⟩) (Yg xs).length cap,gh.f,gh.N⟩,rfl,⟨rfl,rfl⟩,⟨fun q e he=> ?_,fun q q' hq hq' hne=>absurd ((alq _ q hq).trans (alq _ q' hq').symm) hne,fun q hq=> ?_,fun q hq g' hg'=> ?_,fun g' hg'=>bp (cx.nl g' hg') k4⟩,⟨_,rfl,fun _=>rfl⟩,
      ⟨⟨k1,k2,k3,k4⟩,fun g' h1 h2=> ?_,fun g' h1=> .inl h1,fun q hq g' hg'=> ?_⟩,fun q h _=>absurd h (br _)⟩
    · rw [Qe] at he
      split at he
      · rename_i e0; subst e0; cases he
        refine .inr ⟨g,cap,_,[],hf,rfl,heap_sortedI _ hb,by omega,hcap,by simpa [Sort.putCells] using hsz, ?_⟩
        show OwnL (Own .int _) [] (List.take ((Yg xs).length*1) _) (Yg xs)
        have ht2:=take_putCellsI cur row (by have:cur.size=cap*1:=hsz; omega)
        rw[cR,show (Yg xs).length=min (Yg xs).length row.length by omega,← List.take_take,ht2,← List.map_take,← hR,List.take_left' rfl]
        exact QdI fun x hx=>hr x (h0 x hx)
      · cases he
    · rw[alq _ q hq]; exact cx.nd 0 ⟨_,rfl⟩
    · rw[alq _ q hq] at hg'; exact cx.no 0 ⟨_,rfl⟩ g' hg'
    · exact k5 g' h1 fun e0=>h2 0 ⟨_,rfl⟩ (by rw[hf]; cases e0; exact aB ..)
    · rw[alq _ q hq] at hg'; exact .inr ⟨0,⟨_,rfl⟩,hg'⟩
def Qjq:Go.Shelf.Ren:=⟨fun | 189=>221 | 125=>224 | 257=>321 | 128=>331 | 129=>332 | 294=>403 | 295=>404 | 296=>405 | 297=>406 | 298=>407 | 299=>408 | 216=>409 | 300=>410 | 301=>411 | 328=>456 | 329=>413 | 330=>414 | 331=>457 | 332=>458 | 215=>355 | 343=>477 | n=>n,fun | 28=>32 | 3=>3 | 46=>228 | 0=>0 | 51=>305 | 53=>117 | 4=>4 | 183=>299 | 182=>298 | 131=>238 | 5=>5 | 9=>9 | 218=>366 | 222=>370 | 228=>397 | 229=>398 | n=>n,fun | n=>n⟩
theorem QoD:Go.Proofs.Lays.n189 Tryz.prog Qjq:={
  mixed:=by kernel_rfl,
  f125:=Tryz.func224.trans (congrArg some (by kernel_rfl)),
  f128:=Tryz.func331.trans (congrArg some (by kernel_rfl)),
  f129:=Tryz.func332.trans (congrArg some (by kernel_rfl)),
  f189:=Tryz.func221.trans (congrArg some (by kernel_rfl)),
  f215:=Tryz.func355.trans (congrArg some (by kernel_rfl)),
  f216:=Tryz.func409.trans (congrArg some (by kernel_rfl)),
  f257:=Tryz.func321.trans (congrArg some (by kernel_rfl)),
  f294:=Tryz.func403.trans (congrArg some (by kernel_rfl)),
  f295:=Tryz.func404.trans (congrArg some (by kernel_rfl)),
  f296:=Tryz.func405.trans (congrArg some (by kernel_rfl)),
  f297:=Tryz.func406.trans (congrArg some (by kernel_rfl)),
  f298:=Tryz.func407.trans (congrArg some (by kernel_rfl)),
  f299:=Tryz.func408.trans (congrArg some (by kernel_rfl)),
  f300:=Tryz.func410.trans (congrArg some (by kernel_rfl)),
  f301:=Tryz.func411.trans (congrArg some (by kernel_rfl)),
  f328:=Tryz.func456.trans (congrArg some (by kernel_rfl)),
  f329:=Tryz.func413.trans (congrArg some (by kernel_rfl)),
  f330:=Tryz.func414.trans (congrArg some (by kernel_rfl)),
  f331:=Tryz.func457.trans (congrArg some (by kernel_rfl)),
  f332:=Tryz.func458.trans (congrArg some (by kernel_rfl)),
  f343:=Tryz.func477.trans (congrArg some (by kernel_rfl)),
  t0:=Tryz.underlying0,
  a0:=Tryz.isAgg0,
  z0:=Tryz.sizeOf0,
  v0:=Tryz.zeroValue0,
  t3:=Tryz.underlying3,
  a3:=Tryz.isAgg3,
  z3:=Tryz.sizeOf3,
  v3:=Tryz.zeroValue3,
  t4:=Tryz.underlying4,
  a4:=Tryz.isAgg4,
  z4:=Tryz.sizeOf4,
  v4:=Tryz.zeroValue4,
  t5:=Tryz.underlying5,
  a5:=Tryz.isAgg5,
  z5:=Tryz.sizeOf5,
  v5:=Tryz.zeroValue5,
  t9:=Tryz.underlying9,
  a9:=Tryz.isAgg9,
  z9:=Tryz.sizeOf9,
  v9:=Tryz.zeroValue9,
  t28:=Tryz.underlying32,
  a28:=Tryz.isAgg32,
  z28:=Tryz.sizeOf32,
  v28:=Tryz.zeroValue32,
  t46:=Tryz.underlying228,
  a46:=Tryz.isAgg228,
  z46:=Tryz.sizeOf228,
  v46:=Tryz.zeroValue228,
  t51:=Tryz.underlying305,
  a51:=Tryz.isAgg305,
  z51:=Tryz.sizeOf305,
  v51:=Tryz.zeroValue305,
  t53:=Tryz.underlying117,
  a53:=Tryz.isAgg117,
  z53:=Tryz.sizeOf117,
  v53:=Tryz.zeroValue117,
  t131:=Tryz.underlying238,
  a131:=Tryz.isAgg238,
  z131:=Tryz.sizeOf238,
  v131:=Tryz.zeroValue238,
  t182:=Tryz.underlying298,
  a182:=Tryz.isAgg298,
  z182:=Tryz.sizeOf298,
  v182:=Tryz.zeroValue298,
  t183:=Tryz.underlying299,
  a183:=Tryz.isAgg299,
  z183:=Tryz.sizeOf299,
  v183:=Tryz.zeroValue299,
  t218:=Tryz.underlying366,
  a218:=Tryz.isAgg366,
  z218:=Tryz.sizeOf366,
  v218:=Tryz.zeroValue366,
  t222:=Tryz.underlying370,
  a222:=Tryz.isAgg370,
  z222:=Tryz.sizeOf370,
  v222:=Tryz.zeroValue370,
  t228:=Tryz.underlying397,
  a228:=Tryz.isAgg397,
  z228:=Tryz.sizeOf397,
  v228:=Tryz.zeroValue397,
  t229:=Tryz.underlying398,
  a229:=Tryz.isAgg398,
  z229:=Tryz.sizeOf398,
  v229:=Tryz.zeroValue398}
theorem QoP:Qmu Tryz.prog 221:=fun blk cap zs w hH hb hl=>calls_of_every_depth fun D=>AnyS.slices_Sort_int_in QoD D blk 0 cap zs w hH hb hl
theorem Qkt:QeX Tryz.prog 221:=fun w=>Calls.mono (Any.slices_Sort_int_none QoD none 0 w) fun _ _ ⟨h1,h2⟩=>⟨h1,h2▸QN _⟩
theorem QiV (l:List Int)(hl:l.length≤1000000000):FC Tryz.prog 221 [(false,[.ref 0])] [(0,some (.arr 3 .int l))] 1 (Is (.tup []) [(0,some (.arr 3 .int (Y7 l)))]):=Ql6 QoP Qkt l hl
def Qel:Go.Shelf.Ren:=⟨fun | 20=>222 | n=>n,fun | 22=>32 | 3=>3 | 4=>4 | 0=>0 | n=>n,fun | n=>n⟩
theorem QeB:Go.Proofs.Lays2.n20 Tryz.prog Qel:={
  mixed:=by kernel_rfl,
  f20:=Tryz.func222.trans (congrArg some (by kernel_rfl)),
  t0:=Tryz.underlying0,
  a0:=Tryz.isAgg0,
  z0:=Tryz.sizeOf0,
  v0:=Tryz.zeroValue0,
  t3:=Tryz.underlying3,
  a3:=Tryz.isAgg3,
  z3:=Tryz.sizeOf3,
  v3:=Tryz.zeroValue3,
  t4:=Tryz.underlying4,
  a4:=Tryz.isAgg4,
  z4:=Tryz.sizeOf4,
  v4:=Tryz.zeroValue4,
  t22:=Tryz.underlying32,
  a22:=Tryz.isAgg32,
  z22:=Tryz.sizeOf32,
  v22:=Tryz.zeroValue32,
  i3:=by kernel_rfl}
theorem QoU:QmE Tryz.prog 222:=fun blk cap zs w hH h1 h2=>by
  have h:=calls_of_every_depth fun D=>AnyS.slices_Compact_int_in QeB D blk 0 cap zs w hH h1 h2
  rw[QhM] at h
  exact h
theorem QmD:QeF Tryz.prog 222:=fun w=>calls_of_every_depth fun D=>AnyS.slices_Compact_int_empty_in QeB D none 0 w
theorem QhF (l:List Int)(hl:l.length≤1000000000):FC Tryz.prog 222 [(false,[.ref 0])] [(0,some (.arr 3 .int l))] 0 (Yo 3 .int (Yg l)):=QmB QoU QmD l hl
end Go.Proofs.YtgpdhgadmjfokaaGreat
namespace Go.Proofs.YtgpdhgadmjfokaaGreat
open Go.RowKit
section
variable {E:TypeId}{e:Ty}{w:World}{f:Hdr→List e.Den}
theorem QbD:∀{l vs:List Hdr},l.Sublist vs→∀{fp:List Nat},OwnL (Own (.sl E e) w) fp (vs.map hdV) (vs.map f)→∃fp',fp'.Sublist fp∧OwnL (Own (.sl E e) w) fp' (l.map hdV) (l.map f)
  | _,_, .slnil,fp,h=>⟨[],List.nil_sublist _,⟨rfl,rfl⟩⟩
  | _,_, .cons a s,fp,h=>by
    obtain ⟨f1,f2,c1,c2,rfl,h2,h3,h4⟩:=h
    obtain ⟨z,rfl⟩:=Qbk h3
    simp only[bc,cD,cG,aE] at h2
    obtain ⟨_,rfl⟩:=h2
    obtain ⟨fp',k1,k2⟩:=QbD s h4
    exact ⟨fp',k1.trans (List.sublist_append_right ..),k2⟩
  | _,_, .cons_cons a s,fp,h=>by
    obtain ⟨f1,f2,c1,c2,rfl,h2,h3,h4⟩:=h
    obtain ⟨z,rfl⟩:=Qbk h3
    simp only[bc,cD,cG,aE] at h2
    obtain ⟨h5,rfl⟩:=h2
    obtain ⟨fp',k1,k2⟩:=QbD s h4
    exact ⟨f1++fp',(List.Sublist.refl _).append k1,⟨f1,fp',[hdV z],_,rfl,by rw[bc,h5]; rfl,h3,k2⟩⟩
end
section
variable {A:Amb}{P:Program}{s:St}{Q:Exit→St→Prop}{c:Code}
theorem Qr5 {x:Operand}{p:Nat}{E:TypeId}{e:Ty}{vs:List Hdr}{f:Hdr→List e.Den}{v:Hdr}(hx:Evl A s x (.dat .vl v))(hp:s.tab.ent p=some (.pl true (.sl E e) vs f))(hv:v∈vs):EvB A s x (false,[.dat (.sl E e) (f v)]):=fun gh a w r=>by
  obtain ⟨_,h3⟩:=r.cx.en p _ hp
  have h1:Rd gh.N .vl w [a.eval x] v:=hx gh a w r
  have h2:[a.eval x]=[hdV v]:=h1.rep
  obtain ⟨fv,k1,k2⟩:=H2 h3 v hv
  refine ⟨_,rfl, ?_⟩
  have h4:Own (.sl E e) w fv [a.eval x] (f v):=by rw[h2]; exact k1
  exact h4.rd fun g hg=>r.cx.lt ⟨_,hp⟩ g (k2 g hg)
end
section
variable {A:Amb}{P:Program}{s:St}{f:FuncId}{xs:List Operand}{tys:Array TypeId}{args:List (Bool×List LV)}{d:Nat}{ty:TypeId}{pos:String}{af:Array Edge}{g:Option (Nat×Bool)}{pv:PV}
end
end Go.Proofs.YtgpdhgadmjfokaaGreat
namespace Go.Proofs.YtgpdhgadmjfokaaGreat
open Go.RowKit
def ltP:List Int→List Int→Bool
  | [],[]=>false
  | [],_ :: _=>true
  | _ :: _,[]=>false
  | x :: a,y :: b=>if x < y then true else if y < x then false else ltP a b
def Qq9 (x y:Int):Int:=if x < y then -1 else if y < x then 1 else 0
def QqG:List Int→List Int→Int
  | [],[]=>0
  | [],_ :: _=> -1
  | _ :: _,[]=>1
  | x :: a,y :: b=>if Qq9 x y=0 then QqG a b else Qq9 x y
end Go.Proofs.YtgpdhgadmjfokaaGreat
namespace Go.Proofs.YtgpdhgadmjfokaaGreat
open Go.RowKit Go.Sort Go.Shelf Go.Lib
def Qs3 (xs:List (List Int)):List (List Int):=xs.mergeSort fun a b=> !ltP b a
section
variable {α:Type}[Inhabited α]{enc:α→Value}{w:World}{g n:Nat}{os:Array Obj}
end
def Qsx (P:Program)(f g:FuncId):Prop:=∀(α:Type) [Inhabited α] (enc:α→Value),(∀x,(enc x).oneCell'=true)→∀cf:α→α→Int,SWO (ltOf cf)→∀(blk cap:Nat) (d:Array α) (w:World),CmpLays1 P g #[] enc cf blk 0 d.size w→Holds enc w blk 0 d→
  blk < w.heap.size→d.size < 4611686018427387904→Calls P f #[.slice (some ⟨blk,0,none⟩) d.size cap, .func (.func g) #[] #[]] w fun e w'=>e= .returned (.tuple #[])∧∃d' n os,PermIn 0 d.size d d'∧SortedIn (ltOf cf) 0 d.size d'∧w'=sortWorld enc w blk 0 n d' os
def Qqp (P:Program)(f:FuncId):Prop:=∀(p:Option Addr) (cap:Nat) (fv:Value) (w:World),Calls P f #[.slice p 0 cap,fv] w fun e w'=>e= .returned (.tuple #[])∧w'=w
def QrG (P:Program)(g:FuncId)(E:TypeId):Prop:=∀(u v:Value) (a b:List Int) (w:World),Rep (.sl E .int) w [u] a→Rep (.sl E .int) w [v] b→Calls P g #[u,v] w fun e w'=>e= .returned (.int .i64 (QqG a b))∧w'=w
def Qpn:Go.Shelf.Ren:=⟨fun | 6=>125 | 15=>224 | 14=>244 | 28=>331 | 29=>332 | 20=>347 | 21=>348 | 22=>349 | 23=>350 | 24=>351 | 25=>352 | 26=>353 | 27=>354 | 46=>426 | 47=>413 | 48=>414 | 49=>427 | 50=>428 | 57=>463 | n=>n,fun | 22=>67 | 24=>32 | 25=>154 | 3=>3 | 39=>228 | 0=>0 | 53=>305 | 55=>117 | 4=>4 | 46=>299 | 45=>298 | 50=>238 | 5=>5 | 9=>9 | 66=>366 | 70=>370 | 76=>397 | 77=>398 | n=>n,fun | n=>n⟩
end Go.Proofs.YtgpdhgadmjfokaaGreat
namespace Go.Proofs.YtgpdhgadmjfokaaGreat
open Go.RowKit
section
variable {N:Nat→Prop}{w:World}{e:Ty}
theorem FzL.len:∀{vs:List Hdr} {xs:List e.Den},FzL N w e vs xs→vs.length=xs.length
  | [],xs,h=>by rw[show xs=[] from h]; rfl
  | v :: vs,_,⟨x,r,h1,_,h3⟩=>by rw[h1,ax,ax,FzL.len h3]
theorem FzL.app:∀{vs:List Hdr} {xs:List e.Den} {vs2:List Hdr} {ys:List e.Den},FzL N w e vs xs→FzL N w e vs2 ys→FzL N w e (vs++vs2) (xs++ys)
  | [],_,_,_,h,k=>by rw[show _=[] from h]; exact k
  | v :: vs,_,_,_,⟨x,r,h1,h2,h3⟩,k=>⟨x,r++_,by rw[h1]; rfl,h2,FzL.app h3 k⟩
theorem FzL.at:∀{vs:List Hdr} {xs:List e.Den} {j:Nat} {y:e.Den},FzL N w e vs xs→xs[j]? =some y→∃z,vs[j]? =some z∧Rd N e w [hdV z] y
  | [],_,_,_,h,hy=>by rw[show _=[] from h] at hy; cases hy
  | v :: vs,_,0,y,⟨x,r,h1,h2,h3⟩,hy=>by subst h1; cases hy; exact ⟨v,rfl,h2⟩
  | v :: vs,_,j+1,y,⟨x,r,h1,h2,h3⟩,hy=>by subst h1; exact FzL.at (j:=j) h3 hy
theorem FzL.of {f:Hdr→e.Den}:∀{vs:List Hdr},(∀v∈vs,Rd N e w [hdV v] (f v))→FzL N w e vs (vs.map f)
  | [],_=>rfl
  | v :: vs,h=>⟨f v,vs.map f,rfl,h v (aB ..),FzL.of fun u hu=>h u (aC _ hu)⟩
theorem Qp5 {E:TypeId}{e:Ty}:∀{vs:List Hdr} {xs:List (List e.Den)},FzL N w (.sl E e) vs xs→vs.map (rdF E e w)=xs∧∀v∈vs,Rd N (.sl E e) w [hdV v] (rdF E e w v)
  | [],_,h=>⟨by rw[show _=[] from h]; rfl,fun _ h=>by cases h⟩
  | v :: vs,_,⟨x,r,h1,h2,h3⟩=>by
    obtain ⟨k1,k2⟩:=Qp5 h3
    have h4:rdF E e w v=x:=Qbu h2.rep
    refine ⟨by rw[bc,k1,h4,h1],fun u hu=> ?_⟩
    rcases aJ.1 hu with rfl | hu
    · rw[h4]; exact h2
    · exact k2 u hu
theorem Qhz {E:TypeId}{e:Ty}{f:Hdr→List e.Den}{vs:List Hdr}{fi:List Nat}(h:OwnL (Own (.sl E e) w) fi (vs.map hdV) (vs.map f))(hN:∀g∈fi,N g):FzL N w (.sl E e) vs (vs.map f):=FzL.of fun v hv=>by
  obtain ⟨fv,k1,k2⟩:=H2 h v hv
  exact k1.rd fun g hg=>hN g (k2 g hg)
end
section
variable {A:Amb}{P:Program}{s:St}
theorem Rg.toFz {gh:Gh}{a:Act}{w:World}{q:Nat}{E E':TypeId}{e:Ty}{xs:List (List e.Den)}(r:Rg A s gh a w)(he:s.tab.ent q=some (.arr E (.sl E' e) xs)):∃gh',gh'.h=gh.h∧Rg A ⟨s.tm,(q,some (.fz E (.sl E' e) xs)) :: s.tab⟩ gh' a w:=by
  have hq:s.tab.al q:=⟨_,he⟩
  have hO:Own (.sl E (.sl E' e)) w (gh.f q) [gh.h q] xs:=r.cx.en q _ he
  obtain ⟨fg,fi,vs,f,h1,h2,h3,h4⟩:=Qfd hO
  have hnd:=r.cx.nd q hq
  rw[h1] at hnd
  obtain ⟨n1,n2,n3⟩:=bd.1 hnd
  have mg:∀g∈fg,g∈gh.f q:=fun g hg=>by rw[h1]; exact aX _ hg
  have mi:∀g∈fi,g∈gh.f q:=fun g hg=>by rw[h1]; exact aW _ hg
  have hal:∀t,Tab.al ((q,some (.fz E (.sl E' e) xs)) :: s.tab) t→s.tab.al t:=fun t ⟨x,hx⟩=>by
    rw[Qe] at hx
    by_cases e2:t=q
    · rw[e2]; exact hq
    · rw[if_neg e2] at hx; exact ⟨_,hx⟩
  let gh':Gh:=⟨gh.h,fun t=>if t=q then fg else gh.f t,fun g=>gh.N g∨g∈fi⟩
  have fq:gh'.f q=fg:=if_pos rfl
  have fo:∀t,t≠q→gh'.f t=gh.f t:=fun t e2=>if_neg e2
  have sub:∀t,∀g∈gh'.f t,g∈gh.f t:=fun t g hg=>by
    by_cases e2:t=q
    · rw[e2,fq] at hg; rw[e2]; exact mg g hg
    · rwa [fo t e2] at hg
  have hN:∀g,gh.N g→gh'.N g∧w.heap[g]? =w.heap[g]? :=fun g h=>⟨.inl h,rfl⟩
  refine ⟨gh',rfl,r.step ⟨fun t x hx=> ?_,fun t t' ht ht' hn g hg hg'=>r.cx.dj t t' (hal t ht) (hal t' ht') hn g (sub t g hg) (sub t' g hg'),fun t ht=> ?_,fun t ht g hg hgN=> ?_,fun g hgN=> ?_⟩ (fun t ht=> .inl ⟨hal t ht,rfl,fun _=>rfl⟩) hN (Q2 w) (fun _ _ _=>rfl) (fun g hgN=> ?_) fun t ht g hg=> .inr ⟨t,hal t ht,sub t g hg⟩⟩
  · rw [Qe] at hx
    by_cases e2:t=q
    · rw [if_pos e2] at hx
      cases hx
      rw[e2]
      refine ⟨vs, ?_, ?_⟩
      · rw[fq]; exact h2
      · rw[← h4]; exact Qhz h3 fun g hg=> .inr hg
    · rw [if_neg e2] at hx
      exact (r.cx.en t x hx).mono (fun r' _ ha=>⟨hal r' ha,rfl⟩) hN rfl (fo t e2) fun _ _=>rfl
  · by_cases e2 : t = q
    · rw[e2,fq]; exact n1
    · rw[fo t e2]; exact r.cx.nd t (hal t ht)
  · rcases hgN with hgN | hgN
    · exact r.cx.no t (hal t ht) g (sub t g hg) hgN
    · by_cases e2 : t = q
      · rw[e2,fq] at hg; exact n3 g hg g hgN rfl
      · exact r.cx.dj t q (hal t ht) hq e2 g (sub t g hg) (mi g hgN)
  · rcases hgN with hgN | hgN
    · exact r.cx.nl g hgN
    · exact r.cx.lt hq g (mi g hgN)
  · rcases hgN with hgN | hgN
    · exact .inl hgN
    · exact .inr (.inr ⟨q,hq,mi g hgN,fun hl=>r.xn g hl (r.ox q hq g (mi g hgN) hl)⟩)
theorem Wk.toFz {q:Nat}{E E':TypeId}{e:Ty}{xs:List (List e.Den)}(he:s.tab.ent q=some (.arr E (.sl E' e) xs)):Wk A s ⟨s.tm,(q,some (.fz E (.sl E' e) xs)) :: s.tab⟩:=fun _ _ ⟨_,r⟩=>by
  obtain ⟨gh',_,r'⟩:=r.toFz he
  exact ⟨gh',r'⟩
theorem Qbb {i q:Nat}{E E':TypeId}{e:Ty}{xs:List (List e.Den)}(hi:lk s.tm i=some (lf (.ref q)))(he:s.tab.ent q=some (.fz E (.sl E' e) xs)):
    Wk A s ⟨(i,lf (.dat (.sl E (.sl E' e)) xs)) :: s.tm,(q,none) :: s.tab⟩:=fun a w r=>by
  obtain ⟨gh,r⟩:=r
  obtain ⟨v,h1,l,h2,h3⟩:=r.tm i _ hi
  simp only[aE,and_true] at h2
  subst h2
  have hv:v=gh.h q:=h3 ⟨_,he⟩
  obtain ⟨zs,hO,k3⟩:=r.cx.en q _ he
  have hl:=k3.len
  refine ⟨_,(r.freeze he).know h1 (pv:=lf (.dat (.sl E (.sl E' e)) xs)) ⟨_,rfl, ?_⟩⟩
  rw[hv]
  show Rd (fun g=>gh.N g∨g∈gh.f q) (.sl E (.sl E' e)) w [gh.h q] xs
  obtain ⟨wM,m1,m2⟩:=Vu (fun g=>gh.N g∨g∈gh.f q) w
  refine ⟨wM,m1, ?_⟩
  rcases hO with ⟨_,g2,g3⟩ | ⟨g,cap,cur,fps,g1,g2,g3,g4,g5,g6,g7⟩
  · have hx : xs = [] := bw (by rw [← hl, g3]; rfl)
    subst hx
    exact ⟨none,0,g2,aQ _,aU _,fun h=>absurd h (by simp)⟩
  · refine ⟨_, cap, by rw [← hl]; exact g2, by rw [← hl]; exact g4, g5, fun _ => ⟨g, 0, rfl, fun j y hy => ?_⟩⟩
    obtain ⟨z,hz1,wN,w1,w2⟩:=k3.at hy
    refine ⟨[hdV z],w2.kp (w1.kp fun g' hg'=>m2 g' (.inl hg')),fun b u hu=> ?_⟩
    obtain ⟨fv,ds,o1,o2,o3⟩:=g7.get j z hz1
    have o4:ds=[hdV z]:=o1.2
    subst o4
    have o5:=o3 b u hu
    rw[b9] at o5
    split at o5
    · rw [d8 (m2 g (.inr (by rw [g1]; simp)))]
      simp only[World.cell?,g3]
      simpa using o5
    · cases o5
end
section
variable {A:Amb}{P:Program}{s:St}{x y:Operand}{d:Nat}{T ty:TypeId}{pos:String}{af:Array Edge}{g:Option (Nat×Bool)}
@[reducible] def St.mkF (s:St) (d t:Nat) (used:List Nat) (E:TypeId) (e:Ty) (xs:List e.Den):St:=⟨(d,lf (.ref t)) :: s.tm,(t,some (.fz E e xs)) :: (WF used++s.tab)⟩
theorem Qkx {E:TypeId}{e:Ty}{xs ys:List e.Den}(h:xs=ys):some (Ent.fz E e xs)=some (Ent.fz E e ys):=congrArg (fun z=>some (Ent.fz E e z)) h
theorem UZ (t:Nat){q q2:Nat}{E:TypeId}{e:Ty}{xs ys:List e.Den}(hx:Evl A s x (.ref q))(he:s.tab.ent q=some (.fz E e xs))(hy:Evl A s y (.ref q2))(he2:s.tab.ent q2=some (.fz E e ys))
    (hT:P.underlying T=some (.slice E)) (hE:XP P E 1=true) (hb:xs.length+ys.length≤1073741824) (hn:Nat.blt d A.n=true) (hfr:Fresh s t) (hk0:A.k0≤t):
    Does A P ⟨some d, .call {callee:= .builtin .append,args:= #[x,y],argTypes:= #[T,T]},ty,pos,af,g⟩ s (s.mkF d t [q] E e (xs++ys)):=fun a w K Q r hK=>by
  obtain ⟨gh,r⟩:=r
  obtain ⟨vs,h1,f1⟩:=r.cx.en q _ he
  obtain ⟨vs2,h2,f2⟩:=r.cx.en q2 _ he2
  obtain ⟨v',w',fp',k1,k2,k3,k4,k5,k6⟩:=Qbc (P:=P) T ty hT (Qeo (e:= .vl) hE) h1 (r.cx.nd q ⟨_,he⟩) ((Own.rep h2).srcOk rfl) bH (by simp) (by simp) (by rw[f1.len,f2.len]; exact hb)
  have hNk:∀g,gh.N g→gh.N g∧w'.heap[g]? =w.heap[g]? :=fun g hN=>⟨hN,k6 g (r.cx.nl g hN) fun h=>r.cx.no q ⟨_,he⟩ g h hN⟩
  have r2:=r.make t hfr hk0 [q] (by simp only[aJ,cH,or_false]; rintro _ rfl; exact ⟨_,he⟩) k5 (fun g hg hx=>k6 g hg (hx q (by simp))) k2 k3 (fun g hg=>by
    rcases k4 g hg with h | h | h
    · exact .inr ⟨q,by simp,h⟩
    · cases h
    · exact .inl h)
  have r3:=r2.mod (q:=t) (Qe .. |>.trans (if_pos rfl)) (Q2 w') (fun _ _ _=>rfl) (e:= .fz E e (xs++ys)) ⟨vs++vs2,by simpa using k2,(f1.mono hNk).app (f2.mono hNk)⟩
  have r4:=r3.ext (s':=⟨s.tm,(t,some (.fz E e (xs++ys))) :: (WF [q]++s.tab)⟩) (fun _=>rfl) fun q'=>by
    rw[Qe,Qe]
    split
    · rfl
    · rename_i h; rw[Qe,if_neg h]
  refine Qbq rfl (by rw[show a.eval x=gh.h q from hx gh a w r ⟨_,he⟩,show a.eval y=gh.h q2 from hy gh a w r ⟨_,he2⟩]; exact k1) (hK _ _ ⟨_,r4.put (aH hn) (pv:=lf (.ref t)) ⟨_,rfl,fun _=>by simp⟩⟩)
theorem QhD {i p off q:Nat}{E' E:TypeId}{cs:List LV}{e:Ty}{xs:List e.Den}(hi:lk s.tm i=some (lf (.ref q)))(hp:s.tab.ent p=some (.box E' cs))(ho:cs[off]? =some (.ref q))(he:s.tab.ent q=some (.arr E e xs)):
    Wk A s ⟨(i,lf (.dat (.sl E e) xs)) :: s.tm,(p,some (.box E' (splice cs off [.dat (.sl E e) xs]))) :: (q,none) :: s.tab⟩:=fun a w r=>by
  obtain ⟨gh,r⟩:=r
  obtain ⟨v0,t1,l,t2,t3⟩:=r.tm i _ hi
  simp only[aE,and_true] at t2
  subst t2
  have hv0:v0=gh.h q:=t3 ⟨_,he⟩
  have hne:p≠q:=fun h=>by rw[h,he] at hp; cases hp
  obtain ⟨g,cur,h1,h2,h3,h4⟩:=r.cx.en p _ hp
  obtain ⟨v,h5,h6⟩:=h4.nth ho
  have hv:v=gh.h q:=h6 ⟨_,he⟩
  have hO:Own (.sl E e) w (gh.f q) [gh.h q] xs:=r.cx.en q _ he
  have hp':Tab.ent ((q,none) :: s.tab) p=some (.box E' cs):=by rw[Qe,if_neg hne]; exact hp
  have r2:=r.freeze he
  obtain ⟨g',cur',k1,k2,k3,k4⟩:=r2.cx.en p _ hp'
  rw[show gh.h p=_ from h1] at k1
  cases k1
  rw[h3] at k3
  cases k3
  have hD:LVs (Tab.al ((q,none) :: s.tab)) ⟨gh.h,gh.f,fun g=>gh.N g∨g∈gh.f q⟩ w [.dat (.sl E e) xs] [v]:=⟨v,[],rfl,by rw[hv]; exact hO.rd fun g hg=> .inr hg,rfl⟩
  have hS:=k4.splice hD (off:=off)
  have hsame:cur.toList.take off++[v]++cur.toList.drop (off+[v].length)=cur.toList:=by
    have hl:=(ah.1 h5)
    obtain ⟨hl,hl2⟩:=hl
    conv=>rhs; rw[← bE (off+1) cur.toList,bI hl,hl2]
    rfl
  rw[hsame] at hS
  have r3:=r2.mod (e:= .box E' (splice cs off [.dat (.sl E e) xs])) hp' (Q2 w) (fun _ _ _=>rfl) ⟨g,cur,h1,h2,h3,hS⟩
  refine ⟨_,r3.know t1 (pv:=lf (.dat (.sl E e) xs)) ⟨_,rfl, ?_⟩⟩
  rw[hv0]
  exact hO.rd fun g hg=> .inr hg
theorem UE {i:Nat}(E:TypeId)(e:Ty)(hi:lk s.tm i=some (lf (.val (.slice none 0 0)))):Wk A s ⟨(i,lf (.dat (.sl E e) [])) :: s.tm,s.tab⟩:=fun a w r=>by
  obtain ⟨gh,r⟩:=r
  obtain ⟨v,h1,l,h2,h3⟩:=r.tm i _ hi
  simp only[aE,and_true] at h2
  subst h2
  have hv:v= .slice none 0 0:=h3
  refine ⟨_,r.know h1 (pv:=lf (.dat (.sl E e) [])) ⟨_,rfl, ?_⟩⟩
  rw[hv]
  exact (Evl.nil (A:=A) (s:=s) (E:=E) (e:=e)) gh a w r
theorem Jl (t:Nat){E E':TypeId}{e:Ty}{ys:List e.Den}{z:Value}(hT:P.underlying T=some (.slice E))(hE:tsh P E=some (false,1))(hz:zer P E=some z)(hy:Ev A s y (false,[.dat (.sl E' e) ys]))(hl:0 < ys.length)(hn:Nat.blt d A.n=true)(hfr:Fresh s t)(hk0:A.k0≤t):
    Does A P ⟨some d, .buildSlice T 1 #[(0,y)],ty,pos,af,g⟩ s (s.mkF d t [] E (.sl E' e) [ys]):=fun a w K Q r hK=>by
  obtain ⟨gh,r⟩:=r
  obtain ⟨l,hl0,hr⟩:=hy gh a w r
  simp only[aE,and_true] at hl0
  subst hl0
  have hrd:Rd gh.N (.sl E' e) w [a.eval y] ys:=hr
  obtain ⟨A',c,h1,h2,h3,h4⟩:=hrd.rep
  obtain ⟨b,o,rfl,_⟩:=h4 hl
  have hv:a.eval y=hdV (some (b,o,ys.length,c)):=by simpa [hdV] using h1
  have hc1:(a.eval y).cells.size=1:=by rw[hv]; rfl
  obtain ⟨cs',k1,k2⟩:=QaX 1 [a.eval y] 0 ((Array.range (1*1)).map ((z.cells)[· % (z.cells).size]!)) (by simpa using hc1) (by simp)
  have hrun:(execOp a.eval ⟨some d, .buildSlice T 1 #[(0,y)],ty,pos,af,g⟩).run P w= .ok (.value (.slice (some ⟨w.heap.size,0,none⟩) 1 1)) (w.alloc (.cells cs' E)):=by
    simp only[execOp,Instr.buildSlice,az,run_underlying hT,aG,Yq hE]
    rw[if_neg (by decide),if_neg (by decide)]
    simp only[b6,aG,az,Wm hz]
    rw[show (Array.map (fun p:Nat×Operand=>(p.1,a.eval p.2)) #[(0,y)]).toList=([a.eval y].zipIdx 0).map fun p=>(p.2,p.1) by simp,k1]
    simp[newRow,az]
  unfold Oper.wp
  rw[hrun,Oper.upon_value]
  have hbl:∀g,g < w.heap.size→(w.alloc (.cells cs' E)).heap[g]? =w.heap[g]? :=fun g hg=>Below.heap_alloc w _ g hg
  have hcl:cs'.toList=[hdV (some (b,o,ys.length,c))]:=by
    rw[k2,hv]; rfl
  have hcs:cs'.size=1:=by rw[show cs'.size=cs'.toList.length by simp,hcl]; rfl
  have hNk:∀g,gh.N g→gh.N g∧(w.alloc (.cells cs' E)).heap[g]? =w.heap[g]? :=fun g hN=>⟨hN,hbl g (r.cx.nl g hN)⟩
  have hO:Own (.sl E .vl) (w.alloc (.cells cs' E)) [w.heap.size] [.slice (some ⟨w.heap.size,0,none⟩) 1 1] [some (b,o,ys.length,c)]:= .inr ⟨w.heap.size,1,cs',[],rfl,rfl,heap_alloc_new w _,by simp,by unfold maxLen; omega,hcs,by
      rw[bh (by rw[hcl]; exact aQ _),hcl]
      exact ⟨[],[],[hdV (some (b,o,ys.length,c))],[],rfl,rfl,⟨rfl,rfl⟩,⟨rfl,rfl⟩⟩⟩
  have r2:=r.make (w':=w.alloc (.cells cs' E)) t hfr hk0 [] (by simp) ⟨rfl,rfl,rfl,by simp⟩ (fun g hg _=>hbl g hg) (hv:= .slice (some ⟨w.heap.size,0,none⟩) 1 1) (fp:=[w.heap.size]) (E:=E) (e:= .vl) (xs:=[some (b,o,ys.length,c)])
    hO (by simp) (fun g hg=> .inl (by simp at hg; omega))
  have r3:=r2.mod (q:=t) (Qe .. |>.trans (if_pos rfl)) (Q2 _) (fun _ _ _=>rfl) (e:= .fz E (.sl E' e) [ys]) ⟨[some (b,o,ys.length,c)],by simpa using hO,ys,[],rfl,hv▸hrd.mono hNk,rfl⟩
  have r4:=r3.ext (s':=⟨s.tm,(t,some (.fz E (.sl E' e) [ys])) :: (WF []++s.tab)⟩) (fun _=>rfl) fun q'=>by
    rw[Qe,Qe]
    split
    · rfl
    · rename_i h; rw[Qe,if_neg h]
  exact hK _ _ ⟨_,r4.put (aH hn) (pv:=lf (.ref t)) ⟨_,rfl,fun _=>by simp⟩⟩
end
end Go.Proofs.YtgpdhgadmjfokaaGreat
