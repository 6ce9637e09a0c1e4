/- Abstract states: a slice of one's own, of slices: its cells as such, what they lead to apart. No program is named here. -/
import Derived.Test.YtgpdhgadmjfokaaGreatHAv
import Derived.Test.YtgpdhgadmjfokaaGreatHWk
import Derived.Shelf.Lays
import Derived.Shelf.Lays2
import Derived.Shelf.Slices.In.SortNone
import Derived.Shelf.Slices.In.CompactI
import Derived.Test.YtgpdhgadmjfokaaGreatHApp
import Derived.Shelf.SlSortCmp.NoneTotal
import Derived.Shelf.SlLaysF
import Derived.Test.YtgpdhgadmjfokaaGreatHVi
set_option linter.unusedSimpArgs false
set_option linter.unusedVariables false
set_option linter.unusedSectionVars false
namespace Go.Proofs.YtgpdhgadmjfokaaGreat
open Go.RowKit
theorem HZ:∀{t:Ty} {w:World} {cs:List Value} {x y:t.Den},Rep t w cs x→Rep t w cs y→x=y
  | .int,_,_,x,y,h,k=>by have h1:=h.1; have h2:=k.1; rw[h1] at h2; simpa using h2
  | .bool,_,_,x,y,h,k=>by have h1:_=_:=h; have h2:_=_:=k; rw[h1] at h2; simpa using h2
  | .str,_,_,x,y,h,k=>by have h1:=h.1; have h2:=k.1; rw[h1] at h2; simpa using h2
  | .u8,_,_,x,y,h,k=>by
    have h1:_=_:=h; have h2:_=_:=k; rw[h1] at h2
    simp only[aH,Value.int.injEq,and_true,true_and] at h2
    exact UInt8.toNat_inj.1 (by omega)
  | .vl,_,_,x,y,h,k=>by
    have h1:_=_:=h; have h2:_=_:=k; rw[h1] at h2
    exact Qie (by simpa using h2)
  | .sl E e,w,cs,xs,ys,⟨A,c,h1,h2,h3,h4⟩,⟨A',c',k1,k2,k3,k4⟩=>by
    rw[h1] at k1
    simp only[aH,Value.slice.injEq,and_true] at k1
    obtain ⟨rfl,hl,rfl⟩:=k1
    apply bt
    intro i
    rcases cH i xs.length with hi | hi
    · obtain ⟨b, o, e1, g1⟩ := h4 (by omega)
      obtain ⟨b',o',e2,g2⟩:=k4 (by omega)
      rw[e1] at e2
      cases e2
      obtain ⟨ds,r1,r2⟩:=g1 i xs[i] (aa hi)
      obtain ⟨ds',s1,s2⟩:=g2 i ys[i] (aa (by omega))
      have hd:ds=ds':=by
        apply bt
        intro j
        have l1:=r1.len
        have l2:=s1.len
        rcases cH j e.wd with hj | hj
        · have a1 := r2 j ds[j] (aa (by omega))
          have a2:=s2 j ds'[j] (aa (by omega))
          rw[a1] at a2
          rw[aa (by omega),aa (by omega)]
          exact a2
        · rw[bl (by omega),bl (by omega)]
      subst hd
      rw[aa hi,aa (by omega),HZ r1 s1]
    · rw[bl hi,bl (by omega)]
  | .pr a b,w,cs,x,y,⟨l,r,h1,h2,h3⟩,⟨l',r',k1,k2,k3⟩=>by
    rw[h1] at k1
    obtain ⟨rfl,rfl⟩:=List.append_inj k1 (by rw[h2.len,k2.len])
    exact Prod.ext (HZ h2 k2) (HZ h3 k3)
theorem QbJ {E:TypeId}{e:Ty}{w:World}{fp:List Nat}{cs:List Value}{x:List e.Den}(h:Own (.sl E e) w fp cs x):∃v:Hdr,cs=[hdV v]:=by
  rcases h with ⟨_,h,_⟩ | ⟨g,cap,cur,fps,_,h,_⟩
  · exact ⟨none,h⟩
  · exact ⟨some (g,0,x.length,cap),h⟩
open Classical in
noncomputable def rdF (E:TypeId) (e:Ty) (w:World) (v:Hdr):List e.Den:=if h:∃x,Rep (.sl E e) w [hdV v] x then h.choose else []
theorem QaV {E:TypeId}{e:Ty}{w:World}{v:Hdr}{x:List e.Den}(h:Rep (.sl E e) w [hdV v] x):rdF E e w v=x:=by
  have hx:∃x,Rep (.sl E e) w [hdV v] x:=⟨x,h⟩
  unfold rdF
  rw[dif_pos hx]
  exact HZ hx.choose_spec h
theorem Qc1 {E:TypeId}{e:Ty}{w:World}:∀{xs:List (List e.Den)} {fp:List Nat} {cs:List Value},OwnL (Own (.sl E e) w) fp cs xs→∃vs:List Hdr,cs=vs.map hdV∧vs.map (rdF E e w)=xs
  | [],_,_,h=>⟨[],h.2,rfl⟩
  | x :: xs,_,_,⟨f1,f2,c1,c2,h1,h2,h3,h4⟩=>by
    obtain ⟨v,rfl⟩:=QbJ h3
    obtain ⟨vs,rfl,k2⟩:=Qc1 h4
    exact ⟨v :: vs,by rw[h2]; rfl,by rw[aZ,k2,QaV h3.rep]⟩
theorem Qdh {E:TypeId}{e:Ty}{w:World}{f:Hdr→List e.Den}:∀{vs:List Hdr} {fp:List Nat},OwnL (Own (.sl E e) w) fp (vs.map hdV) (vs.map f)→∀v∈vs,∃fv,Own (.sl E e) w fv [hdV v] (f v)∧∀g∈fv,g∈fp
  | [],_,_,v,hv=>by cases hv
  | u :: vs,fp,h,v,hv=>by
    obtain ⟨f1,f2,c1,c2,rfl,h2,h3,h4⟩:=h
    obtain ⟨z,rfl⟩:=QbJ h3
    simp only[aZ,cc,bY,aH] at h2
    obtain ⟨h5,rfl⟩:=h2
    rcases aD.1 hv with rfl | hv
    · exact ⟨f1,by rw[h5]; exact h3,fun g hg=>aP _ hg⟩
    · obtain ⟨fv, k1, k2⟩ := Qdh h4 v hv
      exact ⟨fv,k1,fun g hg=>aR _ (k2 g hg)⟩
theorem Qir {w:World}:∀(vs:List Hdr),OwnL (Own .vl w) [] (vs.map hdV) vs
  | []=>⟨rfl,rfl⟩
  | v :: vs=>⟨[],[],[hdV v],vs.map hdV,rfl,rfl,⟨rfl,rfl⟩,Qir vs⟩
theorem Qku {E E':TypeId}{e:Ty}{w:World}{fp:List Nat}{v:Value}{xs:List (List e.Den)}(h:Own (.sl E (.sl E' e)) w fp [v] xs):
    ∃fg fi vs f,fp=fg++fi∧Own (.sl E .vl) w fg [v] vs∧OwnL (Own (.sl E' e) w) fi (vs.map hdV) (vs.map f)∧vs.map f=xs:=by
  rcases h with ⟨rfl,h,rfl⟩ | ⟨g,cap,cur,fps,rfl,h1,h2,h3,h4,h5,h6⟩
  · exact ⟨[],[],[],fun _=>[],rfl, .inl ⟨rfl,h,rfl⟩,⟨rfl,rfl⟩,rfl⟩
  · obtain ⟨vs, k1, k2⟩ := Qc1 h6
    have hl:vs.length=xs.length:=by rw[← k2,aQ]
    rw[k1] at h6
    refine ⟨[g],fps,vs,rdF E' e w,rfl, .inr ⟨g,cap,cur,[],rfl,by rw[hl]; exact h1,h2,by omega,h4,h5, ?_⟩,by rw[k2]; exact h6,k2⟩
    have:(cur.toList.take (vs.length*Ty.wd .vl))=vs.map hdV:=by rw[hl]; exact k1
    rw[this]
    exact Qir vs
section
variable {A:Amb}{P:Program}{s:St}{Q:Exit→St→Prop}{c:Code}
theorem R.pool {q:Nat}(p:Nat){E E':TypeId}{e:Ty}{xs:List (List e.Den)}{a:Act}{w:World}(he:s.tab.ent q=some (.arr E (.sl E' e) xs))(hfr:Fresh s p)(hk:A.k0≤p)(r:R A s a w):
    ∃(vs:List Hdr) (f:Hdr→List e.Den),vs.map f=xs∧R A ⟨s.tm,(p,some (.pl false (.sl E' e) vs f)) :: (q,some (.arr E .vl vs)) :: s.tab⟩ a w:=by
  obtain ⟨gh,r⟩:=r
  have hq:s.tab.al q:=⟨_,he⟩
  have hne:q≠p:=fun h=>hfr.al (h▸hq)
  have hO:Own (.sl E (.sl E' e)) w (gh.f q) [gh.h q] xs:=r.cx.en q _ he
  obtain ⟨fg,fi,vs,f,h1,h2,h3,h4⟩:=Qku hO
  have hnd:=r.cx.nd q hq
  rw[h1] at hnd
  obtain ⟨n1,n2,n3⟩:=ba.1 hnd
  have mg:∀g∈fg,g∈gh.f q:=fun g hg=>by rw[h1]; exact aP _ hg
  have mi:∀g∈fi,g∈gh.f q:=fun g hg=>by rw[h1]; exact aR _ hg
  have hal:∀t,Tab.al ((p,some (.pl false (.sl E' e) vs f)) :: (q,some (.arr E .vl vs)) :: s.tab) t→t=p∨(t≠p∧s.tab.al t):=fun t ⟨x,hx⟩=>by
    by_cases e1:t=p
    · exact .inl e1
    · refine .inr ⟨e1, ?_⟩
      rw[Qf,if_neg e1,Qf] at hx
      by_cases e2:t=q
      · rw[e2]; exact hq
      · rw[if_neg e2] at hx; exact ⟨_,hx⟩
  let gh':Gh:=⟨fun t=>if t=p then .slice none 0 0 else gh.h t,fun t=>if t=p then [] else if t=q then fg else gh.f t,fun g=>gh.N g∨g∈fi⟩
  have fq:gh'.f q=fg:=by show (if q=p then [] else if q=q then fg else gh.f q)=fg; rw[if_neg hne,if_pos rfl]
  have fp:gh'.f p=[]:=if_pos rfl
  have fo:∀t,t≠p→t≠q→gh'.f t=gh.f t:=fun t e1 e2=>by show (if t=p then [] else if t=q then fg else gh.f t)=_; rw[if_neg e1,if_neg e2]
  have hh:∀t,t≠p→gh'.h t=gh.h t:=fun t e1=>if_neg e1
  have sub:∀t,t≠p→∀g∈gh'.f t,g∈gh.f t:=fun t e1 g hg=>by
    by_cases e2:t=q
    · rw[e2,fq] at hg; rw[e2]; exact mg g hg
    · rwa [fo t e1 e2] at hg
  have hN:∀g,gh.N g→gh'.N g∧w.heap[g]? =w.heap[g]? :=fun g h=>⟨.inl h,rfl⟩
  refine ⟨vs,f,h4,gh',r.step ⟨fun t x hx=> ?_,fun t t' ht ht' hn g hg hg'=> ?_,fun t ht=> ?_,fun t ht g hg hgN=> ?_,fun g hgN=> ?_⟩ (fun t ht=> ?_) hN (Zt w) (fun _ _ _=>rfl) (fun g hgN=> ?_) fun t ht g hg=> ?_⟩
  · rw [Qf] at hx
    by_cases e1:t=p
    · rw [if_pos e1] at hx
      cases hx
      rw[e1]
      refine ⟨if_pos rfl,fp,fun v hv=> ?_⟩
      obtain ⟨fv,k1,k2⟩:=Qdh h3 v hv
      exact k1.rd fun g hg=> .inr (k2 g hg)
    · rw [if_neg e1, Qf] at hx
      by_cases e2:t=q
      · rw [if_pos e2] at hx
        cases hx
        show Own (.sl E .vl) w (gh'.f t) [gh'.h t] vs
        rw[e2,fq,hh q hne]
        exact h2
      · rw [if_neg e2] at hx
        refine (r.cx.en t x hx).mono (fun r' hr' ha=> ?_) hN (hh t e1) (fo t e1 e2) fun _ _=>rfl
        have e3:r'≠p:=fun h=>hfr.en t x hx (h▸hr')
        rcases hal r' ha with h | ⟨_,h⟩
        · exact absurd h e3
        · exact ⟨h,hh r' e3⟩
  · rcases hal t ht with e1 | ⟨e1, a1⟩
    · rw[e1,fp] at hg; cases hg
    · rcases hal t' ht' with e2 | ⟨e2, a2⟩
      · rw[e2,fp] at hg'; cases hg'
      · exact r.cx.dj t t' a1 a2 hn g (sub t e1 g hg) (sub t' e2 g hg')
  · rcases hal t ht with e1 | ⟨e1, a1⟩
    · rw[e1,fp]; exact bF
    · by_cases e2 : t = q
      · rw[e2,fq]; exact n1
      · rw[fo t e1 e2]; exact r.cx.nd t a1
  · rcases hal t ht with e1 | ⟨e1, a1⟩
    · rw[e1,fp] at hg; cases hg
    · rcases hgN with hgN | hgN
      · exact r.cx.no t a1 g (sub t e1 g hg) hgN
      · by_cases e2 : t = q
        · rw[e2,fq] at hg; exact n3 g hg g hgN rfl
        · exact r.cx.dj t q a1 hq e2 g (sub t e1 g hg) (mi g hgN)
  · rcases hgN with hgN | hgN
    · exact r.cx.nl g hgN
    · exact r.cx.lt hq g (mi g hgN)
  · rcases hal t ht with e1 | ⟨e1, a1⟩
    · rw[e1]; exact .inr ⟨hfr,hk⟩
    · exact .inl ⟨a1,hh t e1,fun _=>rfl⟩
  · rcases hgN with hgN | hgN
    · exact .inl hgN
    · exact .inr (.inr ⟨q,hq,mi g hgN,fun hl=>r.xn g hl (r.ox q hq g (mi g hgN) hl)⟩)
  · rcases hal t ht with e1 | ⟨e1, a1⟩
    · rw[e1,fp] at hg; cases hg
    · exact .inr ⟨t,a1,sub t e1 g hg⟩
theorem AC.pool {q:Nat}(p:Nat){E E':TypeId}{e:Ty}{xs:List (List e.Den)}(he:s.tab.ent q=some (.arr E (.sl E' e) xs))(hfr:Fresh s p)(hk:A.k0≤p)
    (k:∀(vs:List Hdr) (f:Hdr→List e.Den),vs.map f=xs→AC A P c Q ⟨s.tm,(p,some (.pl false (.sl E' e) vs f)) :: (q,some (.arr E .vl vs)) :: s.tab⟩):AC A P c Q s:=fun a w r=>by
  obtain ⟨vs,f,h,r'⟩:=R.pool p he hfr hk r
  exact k vs f h a w r'
theorem AL.pool {ops:Array Oper}{l:List Oper}{q:Nat}(p:Nat){E E':TypeId}{e:Ty}{xs:List (List e.Den)}(he:s.tab.ent q=some (.arr E (.sl E' e) xs))(hfr:Fresh s p)(hk:A.k0≤p)
    (k:∀(vs:List Hdr) (f:Hdr→List e.Den),vs.map f=xs→AL A P ops l Q ⟨s.tm,(p,some (.pl false (.sl E' e) vs f)) :: (q,some (.arr E .vl vs)) :: s.tab⟩):AL A P ops l Q s:=fun a w r=>by
  obtain ⟨vs,f,h,r'⟩:=R.pool p he hfr hk r
  exact k vs f h a w r'
theorem Evl.pl {x:Operand}{p:Nat}{e:Ty}{vs:List Hdr}{f:Hdr→e.Den}{v:Hdr}(hx:Evl A s x (.dat .vl v))(hp:s.tab.ent p=some (.pl false e vs f))(hv:v∈vs):Evl A s x (.dat e (f v)):=fun gh a w r=>by
  obtain ⟨_,_,h3⟩:=r.cx.en p _ hp
  have h1:Rd gh.N .vl w [a.eval x] v:=hx gh a w r
  have h2:[a.eval x]=[hdV v]:=h1.rep
  show Rd gh.N e w [a.eval x] (f v)
  rw[h2]
  exact h3 v hv
end
end Go.Proofs.YtgpdhgadmjfokaaGreat
namespace Go.Proofs.YtgpdhgadmjfokaaGreat
open Go.RowKit
section
variable {α:Type}[DecidableEq α][Inhabited α]
omit [Inhabited α] in
theorem Qc9 (y:α):∀l:List α,ZD (l++[y])=ZD l++(if l.getLast? =some y then [] else [y])
  | []=>by simp[ZD]
  | [x]=>by
    by_cases h:x=y
    · simp[ZD,h]
    · simp[ZD,h]
  | x :: z :: l=>by
    have ih:=Qc9 y (z :: l)
    have hl:(x :: z :: l).getLast? =(z :: l).getLast? :=by simp
    rw[hl]
    show (if x=z then ZD ((z :: l)++[y]) else x :: ZD ((z :: l)++[y]))=(if x=z then ZD (z :: l) else x :: ZD (z :: l))++_
    rw[ih]
    split <;> simp
omit [Inhabited α] in
end
def Qr2 (P:Program)(f:FuncId):Prop:=∀(blk cap:Nat) (zs:List Int) (w:World),Sort.Holds (Value.int .i64) w blk 0 zs.toArray→zs.length≤9223372036854775807→zs.length≤cap→
  Calls P f #[.slice (some ⟨blk,0,none⟩) zs.length cap] w fun e w'=>e= .returned (.slice (some ⟨blk,0,none⟩) (ZD zs).length cap)∧∃q,w'=Sort.putRow (Value.int .i64) (Sort.ahead w q) blk 0 (ZD zs++List.replicate (zs.length - (ZD zs).length) 0).toArray
def Qq4 (P:Program)(f:FuncId):Prop:=∀w:World,Calls P f #[.slice none 0 0] w fun e w'=>e= .returned (.slice none 0 0)∧w'=w
def QpQ:Go.Shelf.Ren:=⟨fun | 189=>221 | 125=>224 | 257=>321 | 128=>331 | 129=>332 | 294=>403 | 295=>404 | 296=>405 | 297=>406 | 298=>407 | 299=>408 | 216=>409 | 300=>410 | 301=>411 | 328=>456 | 329=>413 | 330=>414 | 331=>457 | 332=>458 | 215=>355 | 343=>477 | n=>n,fun | 28=>32 | 3=>3 | 46=>228 | 0=>0 | 51=>305 | 53=>117 | 4=>4 | 183=>299 | 182=>298 | 131=>238 | 5=>5 | 9=>9 | 218=>366 | 222=>370 | 228=>397 | 229=>398 | n=>n,fun | n=>n⟩
def QmQ:Go.Shelf.Ren:=⟨fun | 20=>222 | n=>n,fun | 22=>32 | 3=>3 | 4=>4 | 0=>0 | n=>n,fun | n=>n⟩
end Go.Proofs.YtgpdhgadmjfokaaGreat
namespace Go.Proofs.YtgpdhgadmjfokaaGreat
open Go.RowKit
section
variable {E:TypeId}{e:Ty}{w:World}{f:Hdr→List e.Den}
theorem QaC:∀{l vs:List Hdr},l.Sublist vs→∀{fp:List Nat},OwnL (Own (.sl E e) w) fp (vs.map hdV) (vs.map f)→∃fp',fp'.Sublist fp∧OwnL (Own (.sl E e) w) fp' (l.map hdV) (l.map f)
  | _,_, .slnil,fp,h=>⟨[],List.nil_sublist _,⟨rfl,rfl⟩⟩
  | _,_, .cons a s,fp,h=>by
    obtain ⟨f1,f2,c1,c2,rfl,h2,h3,h4⟩:=h
    obtain ⟨z,rfl⟩:=QbJ h3
    simp only[aZ,cc,bY,aH] at h2
    obtain ⟨_,rfl⟩:=h2
    obtain ⟨fp',k1,k2⟩:=QaC s h4
    exact ⟨fp',k1.trans (List.sublist_append_right ..),k2⟩
  | _,_, .cons_cons a s,fp,h=>by
    obtain ⟨f1,f2,c1,c2,rfl,h2,h3,h4⟩:=h
    obtain ⟨z,rfl⟩:=QbJ h3
    simp only[aZ,cc,bY,aH] at h2
    obtain ⟨h5,rfl⟩:=h2
    obtain ⟨fp',k1,k2⟩:=QaC s h4
    exact ⟨f1++fp',(List.Sublist.refl _).append k1,⟨f1,fp',[hdV z],_,rfl,by rw[aZ,h5]; rfl,h3,k2⟩⟩
end
section
variable {A:Amb}{P:Program}{s:St}{Q:Exit→St→Prop}{c:Code}
theorem Qrx {x:Operand}{p:Nat}{E:TypeId}{e:Ty}{vs:List Hdr}{f:Hdr→List e.Den}{v:Hdr}(hx:Evl A s x (.dat .vl v))(hp:s.tab.ent p=some (.pl true (.sl E e) vs f))(hv:v∈vs):EvB A s x (false,[.dat (.sl E e) (f v)]):=fun gh a w r=>by
  obtain ⟨_,h3⟩:=r.cx.en p _ hp
  have h1:Rd gh.N .vl w [a.eval x] v:=hx gh a w r
  have h2:[a.eval x]=[hdV v]:=h1.rep
  obtain ⟨fv,k1,k2⟩:=Qdh h3 v hv
  refine ⟨_,rfl, ?_⟩
  have h4:Own (.sl E e) w fv [a.eval x] (f v):=by rw[h2]; exact k1
  exact h4.rd fun g hg=>r.cx.lt ⟨_,hp⟩ g (k2 g hg)
end
section
variable {A:Amb}{P:Program}{s:St}{f:FuncId}{xs:List Operand}{tys:Array TypeId}{args:List (Bool×List LV)}{d:Nat}{ty:TypeId}{pos:String}{af:Array Edge}{g:Option (Nat×Bool)}{pv:PV}
end
end Go.Proofs.YtgpdhgadmjfokaaGreat
namespace Go.Proofs.YtgpdhgadmjfokaaGreat
open Go.RowKit
def ltP:List Int→List Int→Bool
  | [],[]=>false
  | [],_ :: _=>true
  | _ :: _,[]=>false
  | x :: a,y :: b=>if x < y then true else if y < x then false else ltP a b
def Qqw (x y:Int):Int:=if x < y then -1 else if y < x then 1 else 0
def Qrf:List Int→List Int→Int
  | [],[]=>0
  | [],_ :: _=> -1
  | _ :: _,[]=>1
  | x :: a,y :: b=>if Qqw x y=0 then Qrf a b else Qqw x y
end Go.Proofs.YtgpdhgadmjfokaaGreat
namespace Go.Proofs.YtgpdhgadmjfokaaGreat
open Go.RowKit Go.Sort Go.Shelf Go.Lib
def Qsz (xs:List (List Int)):List (List Int):=xs.mergeSort fun a b=> !ltP b a
section
variable {α:Type}[Inhabited α]{enc:α→Value}{w:World}{g n:Nat}{os:Array Obj}
end
def Qr9 (P:Program)(f g:FuncId):Prop:=∀(α:Type) [Inhabited α] (enc:α→Value),(∀x,(enc x).oneCell'=true)→∀cf:α→α→Int,SWO (ltOf cf)→∀(blk cap:Nat) (d:Array α) (w:World),CmpLays1 P g #[] enc cf blk 0 d.size w→Holds enc w blk 0 d→
  blk < w.heap.size→d.size < 4611686018427387904→Calls P f #[.slice (some ⟨blk,0,none⟩) d.size cap, .func (.func g) #[] #[]] w fun e w'=>e= .returned (.tuple #[])∧∃d' n os,PermIn 0 d.size d d'∧SortedIn (ltOf cf) 0 d.size d'∧w'=sortWorld enc w blk 0 n d' os
def QpP (P:Program)(f:FuncId):Prop:=∀(p:Option Addr) (cap:Nat) (fv:Value) (w:World),Calls P f #[.slice p 0 cap,fv] w fun e w'=>e= .returned (.tuple #[])∧w'=w
def Qqd (P:Program)(g:FuncId)(E:TypeId):Prop:=∀(u v:Value) (a b:List Int) (w:World),Rep (.sl E .int) w [u] a→Rep (.sl E .int) w [v] b→Calls P g #[u,v] w fun e w'=>e= .returned (.int .i64 (Qrf a b))∧w'=w
def QpN:Go.Shelf.Ren:=⟨fun | 6=>125 | 15=>224 | 14=>244 | 28=>331 | 29=>332 | 20=>347 | 21=>348 | 22=>349 | 23=>350 | 24=>351 | 25=>352 | 26=>353 | 27=>354 | 46=>426 | 47=>413 | 48=>414 | 49=>427 | 50=>428 | 57=>463 | n=>n,fun | 22=>67 | 24=>32 | 25=>154 | 3=>3 | 39=>228 | 0=>0 | 53=>305 | 55=>117 | 4=>4 | 46=>299 | 45=>298 | 50=>238 | 5=>5 | 9=>9 | 66=>366 | 70=>370 | 76=>397 | 77=>398 | n=>n,fun | n=>n⟩
end Go.Proofs.YtgpdhgadmjfokaaGreat
namespace Go.Proofs.YtgpdhgadmjfokaaGreat
open Go.RowKit
section
variable {N:Nat→Prop}{w:World}{e:Ty}
theorem FzL.len:∀{vs:List Hdr} {xs:List e.Den},FzL N w e vs xs→vs.length=xs.length
  | [],xs,h=>by rw[show xs=[] from h]; rfl
  | v :: vs,_,⟨x,r,h1,_,h3⟩=>by rw[h1,aq,aq,FzL.len h3]
theorem FzL.app:∀{vs:List Hdr} {xs:List e.Den} {vs2:List Hdr} {ys:List e.Den},FzL N w e vs xs→FzL N w e vs2 ys→FzL N w e (vs++vs2) (xs++ys)
  | [],_,_,_,h,k=>by rw[show _=[] from h]; exact k
  | v :: vs,_,_,_,⟨x,r,h1,h2,h3⟩,k=>⟨x,r++_,by rw[h1]; rfl,h2,FzL.app h3 k⟩
theorem FzL.at:∀{vs:List Hdr} {xs:List e.Den} {j:Nat} {y:e.Den},FzL N w e vs xs→xs[j]? =some y→∃z,vs[j]? =some z∧Rd N e w [hdV z] y
  | [],_,_,_,h,hy=>by rw[show _=[] from h] at hy; cases hy
  | v :: vs,_,0,y,⟨x,r,h1,h2,h3⟩,hy=>by subst h1; cases hy; exact ⟨v,rfl,h2⟩
  | v :: vs,_,j+1,y,⟨x,r,h1,h2,h3⟩,hy=>by subst h1; exact FzL.at (j:=j) h3 hy
theorem FzL.mem:∀{vs:List Hdr} {xs:List e.Den},FzL N w e vs xs→∀v∈vs,∃x,Rd N e w [hdV v] x
  | [],_,_,_,hv=>by cases hv
  | u :: vs,_,⟨x,r,_,h2,h3⟩,v,hv=>by
    rcases aD.1 hv with rfl | hv
    · exact ⟨x,h2⟩
    · exact FzL.mem h3 v hv
theorem FzL.of {f:Hdr→e.Den}:∀{vs:List Hdr},(∀v∈vs,Rd N e w [hdV v] (f v))→FzL N w e vs (vs.map f)
  | [],_=>rfl
  | v :: vs,h=>⟨f v,vs.map f,rfl,h v (ay ..),FzL.of fun u hu=>h u (ax _ hu)⟩
theorem Qos {E:TypeId}{e:Ty}:∀{vs:List Hdr} {xs:List (List e.Den)},FzL N w (.sl E e) vs xs→vs.map (rdF E e w)=xs∧∀v∈vs,Rd N (.sl E e) w [hdV v] (rdF E e w v)
  | [],_,h=>⟨by rw[show _=[] from h]; rfl,fun _ h=>by cases h⟩
  | v :: vs,_,⟨x,r,h1,h2,h3⟩=>by
    obtain ⟨k1,k2⟩:=Qos h3
    have h4:rdF E e w v=x:=QaV h2.rep
    refine ⟨by rw[aZ,k1,h4,h1],fun u hu=> ?_⟩
    rcases aD.1 hu with rfl | hu
    · rw[h4]; exact h2
    · exact k2 u hu
end
section
variable {A:Amb}{P:Program}{s:St}
end
section
variable {A:Amb}{P:Program}{s:St}{x y:Operand}{d:Nat}{T ty:TypeId}{pos:String}{af:Array Edge}{g:Option (Nat×Bool)}
@[reducible] def Qr0 (s:St) (d t:Nat) (used:List Nat) (E:TypeId) (e:Ty) (xs:List e.Den):St:=⟨(d,lf (.ref t)) :: s.tm,(t,some (.fz E e xs)) :: (VM used++s.tab)⟩
end
end Go.Proofs.YtgpdhgadmjfokaaGreat
namespace Go.Proofs.YtgpdhgadmjfokaaGreat
open Go.RowKit
set_option maxRecDepth 100000
set_option maxHeartbeats 4000000
def swL (as_:List DAr)(l:Int×Bool):List Int:=(as_.filter fun a=>decide (a.2.1=l.1∧a.2.2.1=l.2)).map fun a=>a.2.2.2
def WW (c:DSg)(sig:Int):Bool:=decide (0≤sig)&&decide (((c.1[sig.toNat]?).getD (ByteArray.empty,0)).2=1)
def Yg (l:List Qz)(k:Nat):List Int:=((List.range k).filter fun i=> !decide (((l[i]?).getD (ByteArray.empty,0)).2=1)).map fun i=>((i:Nat):Int)
def QrH (c:DSg):ByteArray:=if Ze (fun x:Qz=>decide (x.1=(⟨#[122,48]⟩:ByteArray))) c.1 < 0 then ⟨#[122,48]⟩ else if Ze (fun x:Qz=>decide (x.1=(⟨#[122,49]⟩:ByteArray))) c.1 < 0 then ⟨#[122,49]⟩ else ⟨#[122,50]⟩
section
variable {c:DSg}{l:List Int}{as_:List DAr}{a:DAr}{p:Int×Bool}{k:Nat}{n m y sig:Int}{x:Qz}{ss:List Qz}
theorem Qi5 (hx:ss[k]? =some x)(h:¬x.2=1):Yg ss k++[(k:Int)]=Yg ss (k+1):=by
  unfold Yg
  rw[cI,bC,bS]; simp[hx,h]
theorem Qmq (hx:ss[k]? =some x)(h:x.2=1):Yg ss k=Yg ss (k+1):=by
  unfold Yg
  rw[cI,bC,bS]; simp[hx,h]
theorem QjQ:(Yg ss k).length≤k:=by unfold Yg; rw[aQ]; exact bn (cu ..) (by simp)
theorem QmO (h:¬0≤sig):false=WW c sig:=by unfold WW; rw[az h]; rfl
theorem QdD (h:0≤sig)(hx:c.1[sig.toNat]? =some x):decide (x.2=1)=WW c sig:=by unfold WW; rw[aJ h,hx]; rfl
theorem Qpa (hP:∀j:Nat,(j:Int) < m→∀y,l[j]? =some y→y < n)(h:l[m.toNat]? =some n):l=Q7 ltI n l:=
  (JW (k:=m.toNat) (fun j hj y hy=>by have:=hP j (by omega) y hy; simp[ltI,this]) h (by simp[ltI])).symm
theorem Qom (hP:∀j:Nat,(j:Int) < m→∀y,l[j]? =some y→y < n)(h0:0≤m)(h1:m≤(l.length:Int))(h:∀y,l[m.toNat]? =some y→¬y < n∧y≠n):l.take m.toNat++n :: l.drop m.toNat=Q7 ltI n l:=
  (QdU (k:=m.toNat) (fun j hj y hy=>by have:=hP j (by omega) y hy; simp[ltI,this]) (by omega) fun y hy=>by have:=h y hy; simp[ltI,this]).symm
theorem Qin (hP:∀j:Nat,(j:Int) < m→∀y,l[j]? =some y→y < n)(h0:0≤m)(h1:m≤(l.length:Int))(h:∀y,l[m.toNat]? =some y→¬y < n∧y≠n):
    (([]++(l.take (0+m.toNat)).drop 0)++[n])++(l.take (m.toNat+(l.length - m.toNat))).drop m.toNat=Q7 ltI n l:=by
  rw[← Qom hP h0 h1 h,show m.toNat+(l.length - m.toNat)=l.length by omega,d6]
  simp
abbrev QrM:List ByteArray:=[(⟨#[122,48]⟩:ByteArray),(⟨#[122,49]⟩:ByteArray)]
end
theorem U9 (l:List Int)(n:Int)(hl:l.length≤1000000000):FC Tryz.prog 367 [(false,[.ref 0]),(false,[dI n])] [ar 0 3 .int l] 0 (Wy 3 .int (Q7 ltI n l)):=by
 refine Qj Tryz.func367 rfl rfl Tryz.ntmps367 fun O_ hO w0_ N0_ X_ h0_ f0_=> ?_
 refine acI 1 fun hi1=> ?_
 iterate 8 refine w_ ?_
 refine QF (fun m_ s_=>∃(m:Int),m_=((l.length:Int) - m).toNat∧(0≤m∧m≤(l.length:Int))∧(∀j:Nat,(j:Int) < m→∀y,l[j]? =some y→y < n)∧s_=⟨[(0,lR 0),(1,lI n),(4,lf (.val (.slice none 0 0))),(5,lI m)],[ar 0 3 .int l]⟩) ⟨0,rfl,(by omega),(fun j hj=>by omega),rfl⟩ ?_ ?_
 · exact Wk.of [] rfl ⟨rfl,rfl,rfl,rfl,trivial⟩ ⟨rfl,trivial⟩ rfl rfl
 rintro m_ s_ ⟨m,hm3,hm,hP,rfl⟩
 iterate 7 refine w_ ?_
 cases hb4:(decide (m < (l.length:Int)))
 ·have hb4':=ab hb4
  iterate 9 refine w_ ?_
  refine Qi ?_
  refine (?_:AC _ _ _ _ _)
  iterate 7 refine w_ ?_
  have hb5:(decide (m < (l.length:Int)))=false:=hb4
  try rw[hb5]
  iterate 11 refine w_ ?_
  refine lc (dBs 1 (e:= .int) XI) ?_
  iterate 2 refine w_ ?_
  refine lc (ZG (e:= .int) (a:=0) (b:=(m).toNat) (l:=none) (h:=(some m)) (Qa rfl) rfl (by exact trivial) (by exact (Qa rfl)) Xf Kd rfl (by first | (simp only[ai,ah]; omega) | omega | (simp only[ai,ah,ak,ap,aB]; omega)) (by first | (simp only[ai,ah]; omega) | omega | (simp only[ai,ah,ak,ap,aB]; omega)) (by first | (simp only[ai,ah]; omega) | omega | (simp only[ai,ah,ak,ap,aB]; omega)) (by first | rfl | simp) (by first | rfl | simp))<|lc (Zj 2 (Qa rfl) rfl (Wt (e:= .int) (Qa rfl) rfl (by omega)) rfl Xf Wf (by first | omega | (simp only[ak,aQ,ap,aq,aE]; omega) | (simp only[ak,bh,ap,aq,aE]; omega)) rfl (Fresh.of rfl) (nlr rfl)) ?_
  iterate 5 refine w_ ?_
  refine lc (dBs 3 (e:= .int) XI) ?_
  refine lc (dA 4 Wf) ?_
  iterate 6 refine w_ ?_
  refine lc (ZG (e:= .int) (a:=(m).toNat) (b:=l.length - (m).toNat) (l:=(some m)) (h:=none) (Qa rfl) rfl (by exact (Qa rfl)) (by exact trivial) Xf Kd rfl (by first | (simp only[ai,ah]; omega) | omega | (simp only[ai,ah,ak,ap,aB]; omega)) (by first | (simp only[ai,ah]; omega) | omega | (simp only[ai,ah,ak,ap,aB]; omega)) (by first | (simp only[ai,ah]; omega) | omega | (simp only[ai,ah,ak,ap,aB]; omega)) (by first | rfl | simp) (by first | rfl | simp))<|lc (Zj 5 (Qa rfl) rfl (Wt (e:= .int) (Qa rfl) rfl (by omega)) rfl Xf Wf (by first | omega | (simp only[ak,aQ,ap,aq,aE]; omega) | (simp only[ak,bh,ap,aq,aE]; omega)) rfl (Fresh.of rfl) (nlr rfl)) ?_
  iterate 2 refine w_ ?_
  refine Qb<|fo_ hO ?_
  exact Qin hP (by omega) (by omega) (fun z hz=>by simp_all)
 ·have hb4':=ae hb4
  iterate 3 refine w_ ?_
  obtain ⟨y,hx7⟩:∃z,l[(m).toNat]? =some z:=⟨_,aa (by omega)⟩
  iterate 5 refine w_ ?_
  cases hb8:(decide (y < n))
  ·have hb8':=ab hb8
   refine w_ ?_
   refine Qi ?_
   refine (?_:AC _ _ _ _ _)
   iterate 7 refine w_ ?_
   have hb9:(decide (m < (l.length:Int)))=true:=hb4
   try rw[hb9]
   iterate 8 refine w_ ?_
   refine cd_ (fun hb10 hb10'=> ?_) fun hb10 hb10'=> ?_
   ·iterate 2 refine w_ ?_
    refine lc (dBs 6 (e:= .int) XI) ?_
    iterate 2 refine w_ ?_
    refine lc (ZG (e:= .int) (a:=0) (b:=(m).toNat) (l:=none) (h:=(some m)) (Qa rfl) rfl (by exact trivial) (by exact (Qa rfl)) Xf Kd rfl (by first | (simp only[ai,ah]; omega) | omega | (simp only[ai,ah,ak,ap,aB]; omega)) (by first | (simp only[ai,ah]; omega) | omega | (simp only[ai,ah,ak,ap,aB]; omega)) (by first | (simp only[ai,ah]; omega) | omega | (simp only[ai,ah,ak,ap,aB]; omega)) (by first | rfl | simp) (by first | rfl | simp))<|lc (Zj 7 (Qa rfl) rfl (Wt (e:= .int) (Qa rfl) rfl (by omega)) rfl Xf Wf (by first | omega | (simp only[ak,aQ,ap,aq,aE]; omega) | (simp only[ak,bh,ap,aq,aE]; omega)) rfl (Fresh.of rfl) (nlr rfl)) ?_
    iterate 5 refine w_ ?_
    refine lc (dBs 8 (e:= .int) XI) ?_
    refine lc (dA 9 Wf) ?_
    iterate 6 refine w_ ?_
    refine lc (ZG (e:= .int) (a:=(m).toNat) (b:=l.length - (m).toNat) (l:=(some m)) (h:=none) (Qa rfl) rfl (by exact (Qa rfl)) (by exact trivial) Xf Kd rfl (by first | (simp only[ai,ah]; omega) | omega | (simp only[ai,ah,ak,ap,aB]; omega)) (by first | (simp only[ai,ah]; omega) | omega | (simp only[ai,ah,ak,ap,aB]; omega)) (by first | (simp only[ai,ah]; omega) | omega | (simp only[ai,ah,ak,ap,aB]; omega)) (by first | rfl | simp) (by first | rfl | simp))<|lc (Zj 10 (Qa rfl) rfl (Wt (e:= .int) (Qa rfl) rfl (by omega)) rfl Xf Wf (by first | omega | (simp only[ak,aQ,ap,aq,aE]; omega) | (simp only[ak,bh,ap,aq,aE]; omega)) rfl (Fresh.of rfl) (nlr rfl)) ?_
    iterate 2 refine w_ ?_
    refine Qb<|fo_ hO ?_
    exact Qin hP (by omega) (by omega) (fun z hz=>by simp_all)
   ·iterate 4 refine w_ ?_
    refine Qb<|fo_ hO ?_
    exact Qpa hP (by simp_all)
  ·have hb8':=ae hb8
   iterate 7 refine w_ ?_
   refine Qd<|Q8 ⟨(m+1),rfl,(by omega),(fun j hj z hz=>by by_cases e:j=m.toNat <;> first | (subst e; simp_all; done) | exact hP j (by omega) z hz),rfl⟩ (by omega) ?_
   exact Wk.of [] rfl ⟨rfl,rfl,rfl,rfl,trivial⟩ ⟨rfl,trivial⟩ rfl rfl
theorem Xg (l:List ByteArray)(hl:l.length≤1000000000):FC Tryz.prog 179 [(false,[.dat (.sl 9 .str) l])] [] 0 (Wy 9 .str l):=by
 refine Qj Tryz.func179 rfl rfl Tryz.ntmps179 fun O_ hO w0_ N0_ X_ h0_ f0_=> ?_
 iterate 4 refine w_ ?_
 refine lc (dBs 0 (e:= .str) ZY) ?_
 refine w_ ?_
 refine lc (Zj 1 (Qa rfl) rfl (Evl.rep (Qa rfl)) rfl ZF YU (by first | omega | (simp only[ak,aQ,ap,aq,aE]; omega) | (simp only[ak,bh,ap,aq,aE]; omega)) rfl (Fresh.of rfl) (nlr rfl)) ?_
 iterate 2 refine w_ ?_
 refine Qb<|fo_ hO ?_
 rfl
theorem KW (c:(List (ByteArray×Int))×List ByteArray×(List (Int×Int×Bool×Int)))(sig:Int)[∀c,Decidable (SgOk c)]:FC Tryz.prog 295 [(true,[.dat (.sl 44 (.pr .str .int)) c.1, .dat (.sl 9 .str) c.2.1, .dat (.sl 46 (.pr .int (.pr .int (.pr .bool .int)))) c.2.2]),(false,[dI sig])] [] 0 (QV (lB (decide (SgOk c∧0≤sig∧sig≤(c.1.length:Int) - 1)))):=by
 refine Qj Tryz.func295 rfl rfl Tryz.ntmps295 fun O_ hO w0_ N0_ X_ h0_ f0_=> ?_
 refine acI 1 fun hi1=> ?_
 refine w_ ?_
 refine xbx 0 ?_
 iterate 4 refine w_ ?_
 refine lc (dK (YL c) QbR) ?_
 refine w_ ?_
 cases hb2:(decide (SgOk c))
 ·have hb2':=ab hb2
  iterate 9 refine w_ ?_
  refine Qb<|fqB hO ?_
  (simp_all; done)
 ·have hb2':=ae hb2
  iterate 3 refine w_ ?_
  refine alL 10 fun hl3=> ?_
  iterate 2 refine w_ ?_
  refine lgy rfl rfl (dK (QZ sig 0 ((c.1.length:Int) - 1)) ZE) ?_
  iterate 3 refine w_ ?_
  refine Qb<|fqB hO ?_
  (simp_all; done)
end Go.Proofs.YtgpdhgadmjfokaaGreat
namespace Go.Proofs.YtgpdhgadmjfokaaGreat
open Go.RowKit
set_option maxRecDepth 100000
set_option maxHeartbeats 4000000
abbrev Vi (a:DAr)(l:Int×Bool):Prop:=a.2.1=l.1∧a.2.2.1=l.2
def ixE (as_:List DAr):List (Int×Int):=as_.zipIdx.map fun x=>(x.1.1,(x.2:Int))
inductive ClS (as_:List DAr) (p r:Int×Bool):Int→Prop
  | base {a:DAr}:a∈as_→Vi a p→ClS as_ p r a.2.2.2
  | step {a:DAr}:a∈as_→ClS as_ p r a.1→¬Vi a r→ClS as_ p r a.2.2.2
def QdI (p:Int×Bool)(l:List Int)(a:DAr):List Int:=if Vi a p then Q7 ltI a.2.2.2 l else l
def XM (r:Int×Bool)(l:List Int)(a:DAr):List Int:=if a.1∈l∧¬Vi a r then Q7 ltI a.2.2.2 l else l
def XY {α:Type}(f:α→α):Nat→α→α
  | 0,x=>x
  | n+1,x=>f (XY f n x)
def Uh (c:DSg)(p r:Int×Bool):List Int:=XY (fun l=>c.2.2.foldl (XM r) l) c.2.1.length (c.2.2.foldl (QdI p) [])
theorem Qlf {α:Type}{f:α→α}{I:α→Prop}{m:α→Nat}{n:Nat}(hI:∀x,I x→I (f x))(hm:∀x,I x→m x≤n)(hs:∀x,I x→f x=x∨m x < m (f x)){x:α}(hx:I x):f (XY f n x)=XY f n x:=by
  have h1:∀k,I (XY f k x):=fun k=>by
    induction k with
    | zero=>exact hx
    | succ k ih=>exact hI _ ih
  have h2:∀k,f (XY f k x)=XY f k x∨k≤m (XY f k x):=fun k=>by
    induction k with
    | zero=>exact .inr (aT _)
    | succ k ih=>
      rcases ih with h | h
      · exact .inl (by show f (f (XY f k x))=f (XY f k x); rw[h,h])
      · rcases hs _ (h1 k) with h3 | h3
        · exact .inl (by show f (f (XY f k x))=f (XY f k x); rw[h3,h3])
        · exact .inr (by show k+1≤m (f (XY f k x)); omega)
  rcases h2 n with h | h
  · exact h
  · rcases hs _ (h1 n) with h3 | h3
    · exact h3
    · have:=hm _ (hI _ (h1 n)); omega
section
variable {c:DSg}{as_:List DAr}{a:DAr}{p r:Int×Bool}{k i j n:Nat}{l out ts ys L:List Int}{seen:List Bool}{x y o q at_:Int}
theorem QdB:∀{l:List Int} {lo hi:Int},l.Pairwise (fun x y=>ltI x y=true)→(∀x∈l,lo≤x∧x < hi)→lo≤hi→(l.length:Int)≤hi - lo
  | [],_,_,_,_,h=>by simp; omega
  | x :: l,lo,hi,h1,h2,h3=>by
    obtain ⟨h4,h5⟩:=bi.1 h1
    have h6:=h2 x (ay ..)
    have:=QdB (l:=l) (lo:=x+1) (hi:=hi) h5 (fun y hy=>by have k1:=h4 y hy; have k2:=h2 y (ax _ hy); simp only[ltI,aU] at k1; omega) (by omega)
    simp only[aq]; omega
theorem QiW (h:l.Nodup)(hr:∀x∈l,0≤x∧x < (n:Int)):l.length≤n:=by
  have h1:(QbA l).Nodup:=(Kh l).nodup_iff.2 h
  have h2:(QbA l).Pairwise fun x y=>ltI x y=true:=by
    have:=(Qd9 l).and h1
    exact this.imp fun ⟨k1,k2⟩=>by simp only[ltI,aU]; omega
  have:=QdB h2 (lo:=0) (hi:=n) (fun x hx=>hr x (Qjx.1 hx)) (by omega)
  rw[Qjc] at this
  omega
abbrev Qp2 (l:List Int):Prop:=l.Pairwise fun x y=>ltI x y=true
theorem QbL:∀(x:Int) (l:List Int),Q7 ltI x l=l∨(Q7 ltI x l).length=l.length+1
  | x,[]=> .inr rfl
  | x,y :: l=>by
    unfold Q7
    split
    · rcases QbL x l with h | h
      · exact .inl (by rw[h])
      · exact .inr (by simp[h])
    · split
      · exact .inl rfl
      · exact .inr rfl
theorem Qes:XM r l a=l∨(XM r l a).length=l.length+1:=by
  unfold XM
  split
  · exact QbL _ _
  · exact .inl rfl
theorem KS:∀(as_:List DAr) (l:List Int),as_.foldl (XM r) l=l∨l.length < (as_.foldl (XM r) l).length
  | [],l=> .inl rfl
  | a :: as_,l=>by
    rw[bq]
    rcases KS as_ (XM r l a) with h | h <;> rcases Qes (r:=r) (l:=l) (a:=a) with h2 | h2
    · exact .inl (by rw[h,h2])
    · exact .inr (by rw[h]; omega)
    · rw[h2] at h ⊢; exact .inr h
    · exact .inr (by omega)
structure BlS (c:DSg) (p r:Int×Bool) (l:List Int):Prop where
  str:Qp2 l
  cl:∀x∈l,ClS c.2.2 p r x
theorem BlS.put (h:BlS c p r l)(hx:ClS c.2.2 p r x):BlS c p r (Q7 ltI x l):=⟨Ua Wj h.str,fun y hy=>by
  rcases Yr.1 hy with rfl | hy
  · exact hx
  · exact h.cl y hy⟩
theorem JL:∀{as_:List DAr} {l:List Int},(∀a∈as_,a∈c.2.2)→BlS c p r l→BlS c p r (as_.foldl (QdI p) l)∧(∀x∈l,x∈as_.foldl (QdI p) l)∧∀a∈as_,Vi a p→a.2.2.2∈as_.foldl (QdI p) l
  | [],l,_,h=>⟨h,fun x hx=>hx,fun a ha=>by cases ha⟩
  | a :: as_,l,hs,h=>by
    have h1:BlS c p r (QdI p l a)∧(∀x∈l,x∈QdI p l a)∧(Vi a p→a.2.2.2∈QdI p l a):=by
      unfold QdI
      split
      · rename_i hl
        exact ⟨h.put (.base (hs a (ay ..)) hl),fun x hx=>Yr.2 (.inr hx),fun _=>Yr.2 (.inl rfl)⟩
      · rename_i hl
        exact ⟨h,fun x hx=>hx,fun hp=>absurd hp hl⟩
    obtain ⟨i1,i2,i3⟩:=JL (l:=QdI p l a) (fun b hb=>hs b (ax _ hb)) h1.1
    refine ⟨i1,fun x hx=>i2 x (h1.2.1 x hx),fun b hb hp=> ?_⟩
    rcases aD.1 hb with rfl | hb
    · exact i2 _ (h1.2.2 hp)
    · exact i3 b hb hp
theorem Xq:∀{as_:List DAr} {l:List Int},(∀a∈as_,a∈c.2.2)→BlS c p r l→BlS c p r (as_.foldl (XM r) l)∧(∀x∈l,x∈as_.foldl (XM r) l)∧∀a∈as_,a.1∈l→¬Vi a r→a.2.2.2∈as_.foldl (XM r) l
  | [],l,_,h=>⟨h,fun x hx=>hx,fun a ha=>by cases ha⟩
  | a :: as_,l,hs,h=>by
    have h1:BlS c p r (XM r l a)∧(∀x∈l,x∈XM r l a)∧(a.1∈l→¬Vi a r→a.2.2.2∈XM r l a):=by
      unfold XM
      split
      · rename_i hl
        exact ⟨h.put (.step (hs a (ay ..)) (h.cl _ hl.1) hl.2),fun x hx=>Yr.2 (.inr hx),fun _ _=>Yr.2 (.inl rfl)⟩
      · rename_i hl
        exact ⟨h,fun x hx=>hx,fun h1 h2=>absurd ⟨h1,h2⟩ hl⟩
    obtain ⟨i1,i2,i3⟩:=Xq (l:=XM r l a) (fun b hb=>hs b (ax _ hb)) h1.1
    refine ⟨i1,fun x hx=>i2 x (h1.2.1 x hx),fun b hb hp hn=> ?_⟩
    rcases aD.1 hb with rfl | hb
    · exact i2 _ (h1.2.2 hp hn)
    · exact i3 b hb (h1.2.1 _ hp) hn
theorem QmY (hr:∀a∈as_,0≤a.2.2.2∧a.2.2.2 < (n:Int))(h:ClS as_ p r x):0≤x∧x < (n:Int):=by
  cases h with
  | base h1 _=>exact hr _ h1
  | step h1 _ _=>exact hr _ h1
theorem QaF {f:List Int→List Int}(hf:∀l,BlS c p r l→BlS c p r (f l)∧∀x∈l,x∈f l)(h:BlS c p r l):∀k,BlS c p r (XY f k l)∧∀x∈l,x∈XY f k l
  | 0=>⟨h,fun x hx=>hx⟩
  | k+1=>by
    obtain ⟨h1,h2⟩:=QaF hf h k
    obtain ⟨h3,h4⟩:=hf _ h1
    exact ⟨h3,fun x hx=>h4 x (h2 x hx)⟩
theorem Qbm (c:DSg)(p r:Int×Bool):BlS c p r (Uh c p r):=
  (QaF (fun l hl=>⟨(Xq (fun _ h=>h) hl).1,(Xq (fun _ h=>h) hl).2.1⟩) (JL (fun _ h=>h) ⟨bW,fun x hx=>by cases hx⟩).1 _).1
theorem QfT (hr:∀a∈c.2.2,InR c.2.1.length a):x∈Uh c p r↔ClS c.2.2 p r x:=by
  have h0:BlS c p r ([]:List Int):=⟨bW,fun x hx=>by cases hx⟩
  obtain ⟨a1,a2,a3⟩:=JL (as_:=c.2.2) (fun _ h=>h) h0
  have hrt:∀a∈c.2.2,0≤a.2.2.2∧a.2.2.2 < (c.2.1.length:Int):=fun a ha=>(hr a ha).2
  have hfx:=Qlf (f:=fun l=>c.2.2.foldl (XM r) l) (I:=BlS c p r) (m:=List.length) (n:=c.2.1.length) (fun l hl=>(Xq (fun _ h=>h) hl).1)
    (fun l hl=>by have:=QdB hl.str (lo:=0) (hi:=c.2.1.length) (fun x hx=>QmY hrt (hl.cl x hx)) (by omega); omega) (fun l _=>KS _ _) a1
  have hsub:=(QaF (f:=fun l=>c.2.2.foldl (XM r) l) (fun l hl=>⟨(Xq (fun _ h=>h) hl).1,(Xq (fun _ h=>h) hl).2.1⟩) a1 c.2.1.length)
  refine ⟨(Qbm c p r).cl x,fun h=> ?_⟩
  induction h with
  | base h1 h2=>exact hsub.2 _ (a3 _ h1 h2)
  | step h1 _ h2 ih=>
    have:=(Xq (r:=r) (fun _ h=>h) hsub.1).2.2 _ h1 ih h2
    rw[hfx] at this
    exact this
def mkS (n:Nat)(l:List Int):List Bool:=l.foldl (fun s x=>s.set x.toNat true) (List.replicate n false)
theorem Qnt:(mkS n l).length=n:=by
  unfold mkS
  have:∀(l:List Int) (s:List Bool),(l.foldl (fun s x=>s.set x.toNat true) s).length=s.length:=fun l=>by
    induction l with
    | nil=>intro s; rfl
    | cons x l ih=>intro s; rw[bq,ih,aA]
  rw[this]; simp
theorem QoH (hr:∀x∈l,0≤x∧x < (n:Int))(h0:0≤x)(h1:x < (n:Int)):(mkS n l)[x.toNat]? =some true↔x∈l:=by
  unfold mkS
  have:∀(l:List Int) (s:List Bool),s.length=n→(∀x∈l,0≤x∧x < (n:Int))→((l.foldl (fun s x=>s.set x.toNat true) s)[x.toNat]? =some true↔s[x.toNat]? =some true∨x∈l):=fun l=>by
    induction l with
    | nil=>intro s _ _; simp
    | cons y l ih=>
      intro s hs hr
      have hy:=hr y (ay ..)
      rw[bq,ih _ (by rw[aA]; exact hs) fun z hz=>hr z (ax _ hz),aD]
      by_cases e:x=y
      · subst e
        rw[aV (by omega)]; simp
      · rw[aY (by omega)]; simp[e]
  rw[this l _ (by simp) hr]
  simp[cd]
structure BlI (c:DSg) (p r:Int×Bool) (at_:Int) (out:List Int) (seen:List Bool):Prop where
  rng:0≤at_∧at_≤(out.length:Int)
  nd:out.Nodup
  q:∀x∈out,(0≤x∧x < (c.2.1.length:Int))∧ClS c.2.2 p r x
  sn:seen.length=c.2.1.length
  se:∀x,0≤x→x < (c.2.1.length:Int)→(seen[x.toNat]? =some true↔x∈out)
  base:∀a∈c.2.2,Vi a p→a.2.2.2∈out
  cl:∀(j:Nat) (o:Int),(j:Int) < at_→out[j]? =some o→∀a∈c.2.2,a.1=o→¬Vi a r→a.2.2.2∈out
theorem Qds:x∈swL as_ p↔∃a∈as_,Vi a p∧a.2.2.2=x:=by
  unfold swL
  simp only[b8,co,aU]
  constructor
  · rintro ⟨a,⟨h1,h2⟩,h3⟩; exact ⟨a,h1,h2,h3⟩
  · rintro ⟨a,h1,h2,h3⟩; exact ⟨a,⟨h1,h2⟩,h3⟩
theorem Qmf (hr:∀a∈c.2.2,InR c.2.1.length a)(h:out=ofG ltI (swL c.2.2 p))(hx:x∈out):0≤x∧x < (c.2.1.length:Int):=by
  subst h
  obtain ⟨a,h1,_,rfl⟩:=Qds.1 ((UE Wj _).1 hx)
  exact (hr a h1).2
theorem Qjv (h:Qp2 l):l.Nodup:=h.imp fun h=>by simp only[ltI,aU] at h; omega
theorem BlI.start (hr:∀a∈c.2.2,InR c.2.1.length a)(h:out=ofG ltI (swL c.2.2 p))(hs:seen=mkS c.2.1.length out):BlI c p r 0 out seen where
  rng:=by omega
  nd:=by rw[h]; exact Qjv (Q0 Wj _)
  q x hx:=⟨Qmf hr h hx,by
    rw[h] at hx
    obtain ⟨a,h1,h2,rfl⟩:=Qds.1 ((UE Wj _).1 hx)
    exact .base h1 h2⟩
  sn:=by rw[hs,Qnt]
  se x h0 h1:=by rw[hs]; exact QoH (fun y hy=>Qmf hr h hy) h0 h1
  base a h1 h2:=by rw[h]; exact (UE Wj _).2 (Qds.2 ⟨a,h1,h2,rfl⟩)
  cl j o hj:=by omega
theorem BlI.few (h:BlI c p r at_ out seen):out.length≤c.2.1.length:=QiW h.nd fun x hx=>(h.q x hx).1
theorem BlI.inr (h:BlI c p r at_ out seen)(hx:out[k]? =some x):0≤x∧x < (c.2.1.length:Int):=(h.q x (ao hx)).1
theorem BlI.push (h:BlI c p r at_ out seen)(hr:∀a∈c.2.2,InR c.2.1.length a)(ho:o∈out)(ha:a∈c.2.2)(h1:a.1=o)(h2:¬Vi a r)(hs:seen[a.2.2.2.toNat]? =some false):BlI c p r at_ (out++[a.2.2.2]) (seen.set a.2.2.2.toNat true):=by
  have hra:=(hr a ha).2
  have hno:a.2.2.2∉out:=fun hm=>by have:=(h.se _ hra.1 hra.2).2 hm; rw[hs] at this; cases this
  have hk:=h.sn
  refine ⟨by have:=h.rng; simp; omega, ?_,fun x hx=> ?_,by rw[aA]; exact hk,fun x h0 h3=> ?_,fun b hb hl=>aP _ (h.base b hb hl),fun j o' hj hx b hb e1 e2=> ?_⟩
  · rw [ba]
    exact ⟨h.nd,by simp,fun x hx y hy e=>by rw[aC] at hy; rw[e,hy] at hx; exact hno hx⟩
  · rcases aG.1 hx with hx | hx
    · exact h.q x hx
    · rw [aC] at hx; subst hx
      exact ⟨hra, .step ha (by rw[h1]; exact (h.q o ho).2) h2⟩
  · rw [aG, aC]
    by_cases e:x=a.2.2.2
    · subst e; rw[aV (by omega)]; simp
    · rw[aY (by omega),h.se x h0 h3]; simp[e]
  · have hjl := h.rng
    rw[bd (by omega)] at hx
    exact aP _ (h.cl j o' hj hx b hb e1 e2)
theorem BlI.next (h:BlI c p r at_ out seen)(h0:at_ < (out.length:Int))(ho:out[at_.toNat]? =some o)(hc:∀a∈c.2.2,a.1=o→¬Vi a r→a.2.2.2∈out):BlI c p r (at_+1) out seen:=by
  refine ⟨by have:=h.rng; omega,h.nd,h.q,h.sn,h.se,h.base,fun j o' hj hx=> ?_⟩
  by_cases e:(j:Int)=at_
  · have : j = at_.toNat := by omega
    subst this
    rw[ho] at hx; cases hx
    exact hc
  · exact h.cl j o' (by omega) hx
theorem Qrt (h:BlI c p r at_ out seen)(hr:∀a∈c.2.2,InR c.2.1.length a)(h0:¬at_ < (out.length:Int)):ofG ltI out=Uh c p r:=by
  refine TO.ext Wj (Q0 Wj _) (Qbm c p r).str fun x=> ?_
  rw[UE Wj,QfT hr]
  refine ⟨fun hx=>(h.q x hx).2,fun hx=> ?_⟩
  induction hx with
  | base h1 h2=>exact h.base _ h1 h2
  | step h1 _ h2 ih=>
    obtain ⟨j,hj⟩:=aM.1 ih
    have:=(aj.1 hj).1
    exact h.cl j _ (by omega) hj _ h1 rfl h2
end
section
variable {c:DSg}{as_:List DAr}{a:DAr}{p r:Int×Bool}{k i j n:Nat}{l:List Int}
end
end Go.Proofs.YtgpdhgadmjfokaaGreat
namespace Go.Proofs.YtgpdhgadmjfokaaGreat
open Go.RowKit
set_option maxRecDepth 100000
set_option maxHeartbeats 4000000
def sg0 (n:Nat)(block:List Int):List UInt8:=(List.range n).map fun k:Nat=>if (k:Int)∈block then (49:UInt8) else 48
def Qlj (block:List Int)(s:List UInt8)(a:DAr):List UInt8:=if¬a.1∈block∧a.2.2.2∈block then s.set a.2.2.2.toNat 43 else if a.1∈block∧¬a.2.2.2∈block then s.set a.2.2.2.toNat 45 else s
def inA (c:DSg)(a:DAr):Bool:=decide (a.2.1 < 0)||decide (((c.1[a.2.1.toNat]?).getD (ByteArray.empty,0)).2=1)
def sAt (s:List UInt8)(x:Int):UInt8:=(s[x.toNat]?).getD 0
def Ka (c:DSg)(block:List Int)(s:List UInt8)(a:DAr):List UInt8:=if (sAt s a.1=43∨sAt s a.1=45)∧inA c a=true∧(a.1∈block↔a.2.2.2∈block) then s.set a.2.2.2.toNat (sAt s a.1) else s
def Qmt (c:DSg)(block:List Int)(s:List UInt8):List UInt8:=c.2.2.foldl (Ka c block) s
def Qrj (c:DSg)(block:List Int):List UInt8:=c.2.2.foldl (Qlj block) (sg0 c.2.1.length block)
def Qsr (c:DSg)(block:List Int):List UInt8:=XY (Qmt c block) c.2.1.length (Qrj c block)
def Qpv (c:DSg)(block:List Int):ByteArray:=⟨(Qsr c block).toArray⟩
structure SI (n:Nat) (block:List Int) (s:List UInt8):Prop where
  len:s.length=n
  at_:∀x:Int,0≤x→x < (n:Int)→(x∈block∧(sAt s x=49∨sAt s x=43))∨(¬x∈block∧(sAt s x=48∨sAt s x=45))
def nMk (s:List UInt8):Nat:=(s.filter fun x=>decide (x=43∨x=45)).length
def cMk (s:List UInt8):Nat:=(s.filter fun x=> !decide (x=43∨x=45)).length
section
variable {c:DSg}{as_:List DAr}{a:DAr}{block:List Int}{k i n m:Nat}{s s2 sg:List UInt8}{x y:Int}{z zf zt u v:UInt8}{ch:Bool}
theorem QjO {α:Type}{l:List α}{j:Nat}{w:α}(h:l[j]? =some w):l.set j w=l:=by
  apply bt
  intro i
  by_cases e:j=i
  · subst e; rw[aV (aj.1 h).1,h]
  · rw[aY e]
theorem Qng (h:s[x.toNat]? =some z):sAt s x=z:=by unfold sAt; rw[h]; rfl
theorem QmM (hl:s.length=n)(h0:0≤y)(h1:y < (n:Int))(h2:0≤x):sAt (s.set y.toNat z) x=if x=y then z else sAt s x:=by
  unfold sAt
  by_cases e:x=y
  · subst e; rw[aV (by omega),if_pos rfl]; rfl
  · rw[aY (by omega),if_neg e]
theorem SI.set (h:SI n block s)(h0:0≤y)(h1:y < (n:Int))(hz:(y∈block∧z=43)∨(¬y∈block∧z=45)):SI n block (s.set y.toNat z):=by
  refine ⟨by rw[aA]; exact h.len,fun x k0 k1=> ?_⟩
  rw[QmM h.len h0 h1 k0]
  by_cases e:x=y
  · subst e
    rw[if_pos rfl]
    rcases hz with ⟨g1,g2⟩ | ⟨g1,g2⟩
    · exact .inl ⟨g1, .inr g2⟩
    · exact .inr ⟨g1, .inr g2⟩
  · rw[if_neg e]; exact h.at_ x k0 k1
theorem Qrz (h:SI n block s)(ha:InR n a):SI n block (Qlj block s a):=by
  unfold Qlj
  split
  · rename_i g; exact h.set ha.2.1 ha.2.2 (.inl ⟨g.2,rfl⟩)
  · split
    · rename_i g; exact h.set ha.2.1 ha.2.2 (.inr ⟨g.2,rfl⟩)
    · exact h
theorem SI.val (h:SI n block s)(ha:InR n a)(h1:sAt s a.1=43∨sAt s a.1=45)(h2:a.1∈block↔a.2.2.2∈block):(a.2.2.2∈block∧sAt s a.1=43)∨(¬a.2.2.2∈block∧sAt s a.1=45):=by
  rcases h.at_ a.1 ha.1.1 ha.1.2 with ⟨g1,g2⟩ | ⟨g1,g2⟩
  · refine .inl ⟨h2.1 g1, ?_⟩
    rcases g2 with g2 | g2
    · rw[g2] at h1; rcases h1 with h1 | h1 <;> exact absurd h1 (by decide)
    · exact g2
  · refine .inr ⟨fun g => g1 (h2.2 g), ?_⟩
    rcases g2 with g2 | g2
    · rw[g2] at h1; rcases h1 with h1 | h1 <;> exact absurd h1 (by decide)
    · exact g2
theorem Qfo (q:UInt8→Bool):∀{s:List UInt8} {j:Nat} {u v:UInt8},s[j]? =some u→q u=false→q v=true→((s.set j v).filter q).length=(s.filter q).length+1
  | [],j,u,v,h,_,_=>by simp at h
  | w :: s,0,u,v,h,h1,h2=>by
    simp at h; subst h
    simp[h1,h2]
  | w :: s,j+1,u,v,h,h1,h2=>by
    have ih:=Qfo q (s:=s) (j:=j) (by simpa using h) h1 h2
    rw[cF]
    by_cases e:q w=true
    · rw[List.filter_cons_of_pos e,List.filter_cons_of_pos e,aq,aq,ih]
    · rw[List.filter_cons_of_neg e,List.filter_cons_of_neg e,ih]
theorem Qci (q:UInt8→Bool):∀{s:List UInt8} {j:Nat} {u v:UInt8},s[j]? =some u→q u=true→q v=false→((s.set j v).filter q).length+1=(s.filter q).length
  | [],j,u,v,h,_,_=>by simp at h
  | w :: s,0,u,v,h,h1,h2=>by
    simp at h; subst h
    simp[h1,h2]
  | w :: s,j+1,u,v,h,h1,h2=>by
    have ih:=Qci q (s:=s) (j:=j) (by simpa using h) h1 h2
    rw[cF]
    by_cases e:q w=true
    · rw[List.filter_cons_of_pos e,List.filter_cons_of_pos e,aq,aq,ih]
    · rw[List.filter_cons_of_neg e,List.filter_cons_of_neg e,ih]
theorem QgA (h:SI n block s)(ha:InR n a):SI n block (Ka c block s a)∧(Ka c block s a=s∨(nMk s < nMk (Ka c block s a)∧cMk (Ka c block s a) < cMk s)):=by
  unfold Ka
  split
  · rename_i g
    have hv:=h.val ha g.1 g.2.2
    refine ⟨h.set ha.2.1 ha.2.2 hv, ?_⟩
    have hl:=h.len
    have hg:s[a.2.2.2.toNat]? =some (sAt s a.2.2.2):=by
      unfold sAt
      rw[aa (by have:=ha.2; omega)]; rfl
    by_cases e:sAt s a.2.2.2=sAt s a.1
    · exact .inl (by rw[← e]; exact QjO hg)
    · right
      have hu:¬(sAt s a.2.2.2=43∨sAt s a.2.2.2=45):=fun hu=>by
        rcases h.at_ a.2.2.2 ha.2.1 ha.2.2 with ⟨g1,g2⟩ | ⟨g1,g2⟩ <;> rcases hv with ⟨v1,v2⟩ | ⟨v1,v2⟩
        · rcases g2 with g2 | g2
          · rw[g2] at hu; rcases hu with hu | hu <;> exact absurd hu (by decide)
          · exact e (g2.trans v2.symm)
        · exact v1 g1
        · exact g1 v1
        · rcases g2 with g2 | g2
          · rw[g2] at hu; rcases hu with hu | hu <;> exact absurd hu (by decide)
          · exact e (g2.trans v2.symm)
      constructor
      · unfold nMk
        rw[Qfo _ hg (az hu) (aJ g.1)]; omega
      · unfold cMk
        have:=Qci (fun x=> !decide (x=43∨x=45)) hg (by simp only[az hu]; rfl) (v:=sAt s a.1) (by simp only[aJ g.1]; rfl)
        omega
  · exact ⟨h, .inl rfl⟩
structure PI (c:DSg) (block:List Int) (sg:List UInt8) (i:Nat) (s:List UInt8) (ch:Bool):Prop where
  si:SI c.2.1.length block s
  eq:Qmt c block sg=(c.2.2.drop i).foldl (Ka c block) s
  no:ch=false→s=sg
  yes:ch=true→cMk s < cMk sg
  le:cMk s≤cMk sg
theorem PI.start (h:SI c.2.1.length block sg):PI c block sg 0 sg false:=⟨h,rfl,fun _=>rfl,(fun h=>by cases h),aO _⟩
theorem Qil (hx:as_[i]? =some a):as_.drop i=a :: as_.drop (i+1):=by
  obtain ⟨h1,h2⟩:=aj.1 hx
  rw[List.drop_eq_getElem_cons h1,h2]
theorem PI.skip (h:PI c block sg i s ch)(hx:c.2.2[i]? =some a)(hn:Ka c block s a=s):PI c block sg (i+1) s ch:=⟨h.si,by rw[h.eq,Qil hx,bq,hn],h.no,h.yes,h.le⟩
theorem Qsb (h:PI c block sg i s ch)(hr:∀a∈c.2.2,InR c.2.1.length a)(hx:c.2.2[i]? =some a)(h1:s[a.1.toNat]? =some u)(h2:s[a.2.2.2.toNat]? =some v)(hm:u=43∨u=45)(hi:inA c a=true)(hb:a.1∈block↔a.2.2.2∈block)(hne:¬v=u):PI c block sg (i+1) (s.set a.2.2.2.toNat u) true:=by
  have ha:=hr a (ao hx)
  have hmv:Ka c block s a=s.set a.2.2.2.toNat u:=by
    unfold Ka
    rw[Qng h1,if_pos ⟨hm,hi,hb⟩]
  obtain ⟨k1,k2⟩:=QgA (c:=c) h.si ha
  rw[hmv] at k1 k2
  have k3:¬s.set a.2.2.2.toNat u=s:=fun e=>by
    have h3:(s.set a.2.2.2.toNat u)[a.2.2.2.toNat]? =some u:=aV (aj.1 h2).1
    rw[e,h2] at h3
    cases h3; exact hne rfl
  have k4:=(k2.resolve_left k3).2
  have:=h.le
  exact ⟨k1,by rw[h.eq,Qil hx,bq,hmv],(fun h=>by cases h),fun _=>by omega,by omega⟩
theorem PI.end_ (h:PI c block sg i s ch)(hi:c.2.2.length≤i):s=Qmt c block sg:=by rw[h.eq,bz hi]; rfl
end
end Go.Proofs.YtgpdhgadmjfokaaGreat
namespace Go.Proofs.YtgpdhgadmjfokaaGreat
open Go.RowKit
set_option maxRecDepth 100000
set_option maxHeartbeats 4000000
def sgF (n:Nat)(block:List Int)(k:Nat):List UInt8:=sg0 k block++List.replicate (n - k) 0
def okB (c:DSg)(p r:Int×Bool):Bool:=Qod c (Qpv c (Uh c p r))&&(decide (0 < ((Uh c p r).length:Int))&&decide (((Uh c p r).length:Int) < (c.2.1.length:Int)))
def QsB (c:DSg)(p r:Int×Bool):ByteArray:=if okB c p r=true then Qpv c (Uh c p r) else ⟨#[]⟩
section
variable {c:DSg}{as_:List DAr}{a:DAr}{block:List Int}{k i j n:Nat}{s:List UInt8}{u:UInt8}{p r:Int×Bool}{x:Qz}
end
end Go.Proofs.YtgpdhgadmjfokaaGreat
