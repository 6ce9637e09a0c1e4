/- Abstract states: parts of slices of one's own; copies; an own slice that is frozen. No program is named here. -/
import Derived.Test.YtgpdhgadmjfokaaGreatGAl
import Derived.Laws.CopyRow
import Derived.Test.YtgpdhgadmjfokaaGreatGAe
import Derived.DeepKeys3
set_option linter.unusedSimpArgs false
set_option linter.unusedVariables false
set_option linter.unusedSectionVars false
namespace Go.Proofs.YtgpdhgadmjfokaaGreat
open Go.RowKit
section
variable {A:Amb}{P:Program}{s:St}{x y:Operand}{d:Nat}{T T' ty:TypeId}{pos:String}{af:Array Edge}{g:Option (Nat×Bool)}
variable {E:TypeId}{e:Ty}{xs:List e.Den}{q lo n:Nat}
theorem SubR.all {h:Value}{w:World}{fp:List Nat}{wd:Nat}(hO:Own (.sl E e) w fp [h] xs):SubR h wd 0 xs.length h:=by
  rcases hO with ⟨_,h1,h2⟩ | ⟨b,cap,cur,fps,_,h1,_⟩
  · subst h2
    simp only[aE,and_true] at h1
    exact ⟨none,0,0,h1,by rw[h1]; rfl⟩
  · simp only [aE, and_true] at h1
    refine ⟨some ⟨b,0,none⟩,xs.length,cap,h1, ?_⟩
    rw[h1]
    congr 1
    split
    · rfl
    · simp[Addr.add_lit]
theorem SubR.rep {h v:Value}{w:World}{fp:List Nat}(hO:Own (.sl E e) w fp [h] xs)(hs:SubR h e.wd lo n v)(hb:lo+n≤xs.length):Rep (.sl E e) w [v] ((xs.take (lo+n)).drop lo):=by
  obtain ⟨B,m,c,rfl,rfl⟩:=hs
  have hR:=hO.rep
  obtain ⟨B',c',k,_⟩:=hR
  have hR:=hO.rep
  simp only[aE,Value.slice.injEq,and_true] at k
  obtain ⟨rfl,rfl,rfl⟩:=k
  have:=hR.part (lo:=lo) (hi:=lo+n) (by omega) hb
  rwa [bj] at this
theorem ZD {lo hi:Option Operand}{l h:Option Int}{bb:Bool}(hx:Evl A s x (.ref q))(he:s.tab.ent q=some (.arr E e xs))(hlo:opI A s lo l)(hhi:opI A s hi h){E':TypeId}(hT:P.underlying T=some (.slice E'))(hE:tsh P E'=some (bb,e.wd))(hn:Nat.blt d A.n=true)
    (h0:0≤l.getD 0) (h1:l.getD 0≤h.getD xs.length) (h2:h.getD xs.length≤xs.length) {a b:Nat} (ha:a=(l.getD 0).toNat) (hb:b=(h.getD xs.length).toNat - (l.getD 0).toNat):Does A P ⟨some d, .slice T x lo hi none,ty,pos,af,g⟩ s (s.put d (lf (.sub q e.wd a b))):=
  Qf rfl hn fun gh a' w r=>by
    subst ha hb
    have hv:a'.eval x=gh.h q:=hx gh a' w r ⟨_,he⟩
    have hO:Own (.sl E e) w (gh.f q) [gh.h q] xs:=r.cx.en q _ he
    obtain ⟨B,c,k1,k2,k3⟩:=hO.rep.slv
    refine ⟨_, ?_,_,rfl,fun _=>⟨B,xs.length,c,k1,rfl⟩⟩
    simp only[execOp,hv,k1,hlo.ev r,hhi.ev r,Option.map_none,Instr.sliceAt,Instr.slice,az,run_underlying hT,aG,VI h0 h1 h2 k2,Yq hE]
    simp
theorem Wj (h:Evl A s x (.sub q e.wd lo n))(he:s.tab.ent q=some (.arr E e xs))(hb:lo+n≤xs.length):Qa5 A s x (.sl E e) ((xs.take (lo+n)).drop lo):=fun gh a w r=>by
  have hO:Own (.sl E e) w (gh.f q) [gh.h q] xs:=r.cx.en q _ he
  exact (h gh a w r ⟨_,he⟩).rep hO hb
def cpy {α:Type}(xs:List α)(lo n:Nat)(ys:List α):List α:=xs.take lo++ys.take (min ys.length n)++xs.drop (lo+min ys.length n)
theorem Qdz {α:Type}{xs:List α}{lo n:Nat}{ys:List α}(h:lo+n≤xs.length):(cpy xs lo n ys).length=xs.length:=by
  simp[cpy]; omega
theorem Ht {α:Type}{l:List α}{len lo:Nat}{cs:List α}(h:lo+cs.length≤len)(h2:len≤l.length):(l.take lo++cs++l.drop (lo+cs.length)).take len=(l.take len).take lo++cs++(l.take len).drop (lo+cs.length):=by
  have hA:(l.take lo++cs).length=lo+cs.length:=by simp; omega
  rw[List.take_append,bh (by omega),hA,List.take_take,cF (by omega),List.drop_take]
theorem OwnL.fp0 {w:World}(hf:e.flat=true):∀{xs:List e.Den} {fp:List Nat} {cs:List Value},OwnL (Own e w) fp cs xs→fp=[]
  | [],_,_,h=>h.1
  | _ :: _,_,_,⟨f1,f2,c1,c2,h1,h2,h3,h4⟩=>by rw[h1,WA hf h3,OwnL.fp0 hf h4]; rfl
theorem OwnL.takeN {w:World}(hw:e.wd=1)(hf:e.flat=true):∀{xs:List e.Den} {fp:List Nat} {cs:List Value} (k:Nat),OwnL (Own e w) fp cs xs→OwnL (Own e w) [] (cs.take k) (xs.take k)
  | [],_,_,k,h=>by rw[h.2]; simp[OwnL]
  | x :: xs,_,_,0,_=>by simp[OwnL]
  | x :: xs,_,_,k+1,⟨f1,f2,c1,c2,h1,h2,h3,h4⟩=>by
    have hl:=h3.len
    rw[hw] at hl
    have hf1:=WA hf h3
    subst hf1
    match c1,hl with
    | [c],_=>
      rw[h2]
      exact ⟨[],[],[c],c2.take k,rfl,rfl,h3,OwnL.takeN hw hf k h4⟩
theorem OwnL.dropN {w:World}(hw:e.wd=1)(hf:e.flat=true):∀{xs:List e.Den} {fp:List Nat} {cs:List Value} (k:Nat),OwnL (Own e w) fp cs xs→OwnL (Own e w) [] (cs.drop k) (xs.drop k)
  | [],_,_,k,h=>by rw[h.2]; simp[OwnL]
  | x :: xs,_,_,0,h=>by have:=h.fp0 hf; subst this; exact h
  | x :: xs,_,_,k+1,⟨f1,f2,c1,c2,h1,h2,h3,h4⟩=>by
    have hl:=h3.len
    rw[hw] at hl
    match c1,hl with
    | [c],_=>
      rw[h2]
      exact OwnL.dropN hw hf k h4
theorem Qcf {w:World}{dT sT ty elem:TypeId}{b o dLen dCap:Nat}{a:Addr}{sLen sCap:Nat}{cur:Array Value}{cs:List Value}(hu:P.underlying dT=some (.slice elem))(hs:(P.info? elem).map (·.size)=some 1)
    (hg:w.heap[b]? =some (.cells cur E (0,0))) (hn:cs.length=Nat.min sLen dLen) (hsrc:∀j v,cs[j]? =some v→w.cell? (a.add j)=some v) (hfit:o+cs.length≤cur.size) (h1:∀v∈cs,v.oneCell'=true):
    (Builtin.copy_ #[dT,sT] ty #[.slice (some ⟨b,o,none⟩) dLen dCap, .slice (some a) sLen sCap]).run P w= .ok (goInt cs.length) (Xf w b o cs):=by
  have hl:=run_loadCells_list (P:=P) w a cs hsrc
  have hst:=Wi (P:=P) (b:=b) (E:=E) cs o 0 w cur hg (by omega) h1
  cases hq:P.info? elem with
  | none=>simp[hq] at hs
  | some i=>
    have hi:i.size=1:=by simpa [hq] using hs
    simp[Builtin.copy_,run_underlying hu,Builtin.lenOf,Builtin.firstCells,sizeOf,typeInfo,hq,hi,← hn,hl,hst]
def QkV (A:Amb)(s:St)(x:Operand)(q wd lo n:Nat):Prop:=∀gh a w,Rg A s gh a w→SubR (gh.h q) wd lo n (a.eval x)
theorem QlI (h:Evl A s x (.sub q e.wd lo n))(he:s.tab.ent q=some (.arr E e xs)):QkV A s x q e.wd lo n:=fun gh a w r=>h gh a w r ⟨_,he⟩
theorem Qkw (h:Evl A s x (.ref q))(he:s.tab.ent q=some (.arr E e xs)):QkV A s x q e.wd 0 xs.length:=fun gh a w r=>by
  have hO:Own (.sl E e) w (gh.f q) [gh.h q] xs:=r.cx.en q _ he
  rw[show a.eval x=gh.h q from h gh a w r ⟨_,he⟩]
  exact SubR.all hO
theorem Qbw {T1 T2 elem:TypeId}{z:Value}{bytes:Nat}{ys:List e.Den}(hx:QkV A s x q e.wd lo n)(he:s.tab.ent q=some (.arr E e xs))(hb:lo+n≤xs.length)(hy:Qa5 A s y (.sl E e) ys)(hw:e.wd=1)(hf:e.flat=true)
    (hu:P.underlying T1=some (.slice elem)) (hi:(P.info? elem).map (fun i=>(i.zero,i.size,i.bytes))=some (some z,1,bytes)) (hn:Nat.blt d A.n=true):
    Does A P ⟨some d, .call ⟨.builtin .copy, #[x,y], #[T1,T2]⟩,ty,pos,af,g⟩ s ⟨(d,lf (dI (min ys.length n:Nat))) :: s.tm,(q,some (.arr E e (cpy xs lo n ys))) :: s.tab⟩:=fun a w K Q r hK=>by
  obtain ⟨gh,r⟩:=r
  have hs:(P.info? elem).map (·.size)=some 1:=by
    cases hq:P.info? elem with
    | none=>rw[hq] at hi; simp at hi
    | some i=>rw[hq] at hi; simp at hi; simp[hi.2.1]
  have hO:Own (.sl E e) w (gh.f q) [gh.h q] xs:=r.cx.en q _ he
  have hO':=hO
  obtain ⟨B,m,c,q1,q2⟩:=hx gh a w r
  have hr:=hy gh a w r
  obtain ⟨A',c2,hv2,h3,h4⟩:=hr.slv
  obtain ⟨B0,c0,z1,z2,z3⟩:=hO.rep.slv
  have hsz:(min ys.length n:Nat)≤9223372036854775807:=by unfold maxLen at z3; omega
  by_cases hz:min ys.length n=0
  · have hc : cpy xs lo n ys = xs := by simp [cpy, hz]
    have e0:(execOp a.eval ⟨some d, .call ⟨.builtin .copy, #[x,y], #[T1,T2]⟩,ty,pos,af,g⟩).run P w= .ok (.value (goInt ((min ys.length n:Nat):Int))) w:=by
      have h5:=run_copy_none (P:=P) w T1 T2 ty elem (if c=lo then B else B.map (·.add (lo*e.wd))) A' n (c - lo) ys.length c2 hu hs hz
      rw[hz]
      simp only[execOp,resolve,invoke,builtin,q2,hv2,az,b6,aG,dr,bc,dp,h5]
      rfl
    unfold Oper.wp
    rw[e0,Oper.upon_value]
    refine hK _ _ ⟨gh,Rg.put (s:=⟨s.tm,(q,some (.arr E e (cpy xs lo n ys))) :: s.tab⟩) (r.mod he (Q2 w) (fun _ _ _=>rfl) ?_) (aH hn) (pv:=lf (dI (min ys.length n:Nat))) ⟨_,rfl,ZW (n:=((min ys.length n:Nat):Int)) (by omega)⟩⟩
    rw[hc]
    exact hO'
  · rcases hO with ⟨_, _, h⟩ | ⟨b, cap, cur, fps, p2, p3, p4, p5, p6, p7, p8⟩
    · subst h; simp at hb; omega
    have hfp:=p8.fp0 hf
    subst hfp
    simp only[aE,and_true] at p3
    rw[q1] at p3
    simp only[Value.slice.injEq] at p3
    obtain ⟨rfl,rfl,rfl⟩:=p3
    rw[if_neg (by omega)] at q2
    simp only[du,Addr.add_lit,hw,cR,bW] at q2
    rw[hv2] at hr
    obtain ⟨_,hsrc⟩:=hr.src (M:=0) hf
    rcases hsrc with ⟨_,h0⟩ | ⟨ad,news,rfl,⟨fp,n1,_,_⟩,n4⟩
    · omega
    have hnl:=n1.len
    rw[hw,cR] at hnl
    have n5:=n1.takeN hw hf (min ys.length n)
    have hcl:(news.take (min ys.length n)).length=min ys.length n:=by rw[aw]; omega
    have hcs:cur.size=c:=by rw[p7,hw,cR]
    have h5:=Qcf (P:=P) (w:=w) (dT:=T1) (sT:=T2) (ty:=ty) (o:=lo) (dCap:=c - lo) (sCap:=c2) (sLen:=ys.length) (dLen:=n) (a:=ad) (cs:=news.take (min ys.length n)) hu hs p4 hcl
      (fun j v hj=>n4 j v (by rw[b9] at hj; split at hj; exact hj; cases hj)) (by rw[hcl]; omega) (OwnL.one (fp:=[]) n5)
    have e0:(execOp a.eval ⟨some d, .call ⟨.builtin .copy, #[x,y], #[T1,T2]⟩,ty,pos,af,g⟩).run P w= .ok (.value (goInt ((min ys.length n:Nat):Int))) (Xf w b lo (news.take (min ys.length n))):=by
      rw[hcl] at h5
      simp only[execOp,resolve,invoke,builtin,q2,hv2,az,b6,aG,dr,bc,dp,h5]
    unfold Oper.wp
    rw[e0,Oper.upon_value]
    obtain ⟨cur',m1,m2,m3⟩:=We b E (0,0) (news.take (min ys.length n)) w lo cur p4 (by rw[hcl]; omega)
    refine hK _ _ ⟨gh,Rg.put (s:=⟨s.tm,(q,some (.arr E e (cpy xs lo n ys))) :: s.tab⟩) (r.mod he (WX w b lo _) (fun g0 _ hg0=>Yb w b lo _ g0 fun h=>hg0 (by rw[p2,h]; simp)) ?_) (aH hn) (pv:=lf (dI (min ys.length n:Nat))) ⟨_,rfl,ZW (n:=((min ys.length n:Nat):Int)) (by omega)⟩⟩
    have hcp:=Qdz (ys:=ys) hb
    refine .inr ⟨b,c,cur',[],p2,by rw[q1,hcp],m1,by omega,p6,by rw[m2]; exact p7, ?_⟩
    rw[hw,cR] at p8 ⊢
    rw[hcp]
    have hlist:cur'.toList.take xs.length=(cur.toList.take xs.length).take lo++news.take (min ys.length n)++(cur.toList.take xs.length).drop (lo+min ys.length n):=by
      have h9:=Ht (l:=cur.toList) (len:=xs.length) (lo:=lo) (cs:=news.take (min ys.length n)) (by rw[hcl]; omega) (by simp; omega)
      rw[m3,h9,hcl]
    rw[hlist]
    have keep:∀{cs:List Value} {zs:List e.Den},OwnL (Own e w) [] cs zs→OwnL (Own e (Xf w b lo (news.take (min ys.length n)))) [] cs zs:=fun h=>h.mono fun f c x hf' ho=>ho.keep fun g hg=>absurd (hf' g hg) (by simp)
    exact ((keep (p8.takeN hw hf lo)).append (keep n5)).append (keep (p8.dropN hw hf (lo+min ys.length n)))
theorem Qf4 (i:Nat)(hi:lk s.tm i=some (lf (.ref q)))(he:s.tab.ent q=some (.arr E e xs)):Wk A s ⟨(i,lf (.dat (.sl E e) xs)) :: s.tm,(q,none) :: s.tab⟩:=fun a w r=>by
  obtain ⟨gh,r⟩:=r
  obtain ⟨v,h1,l,h2,h3⟩:=r.tm i _ hi
  simp only[aE,and_true] at h2
  subst h2
  have hv:v=gh.h q:=h3 ⟨_,he⟩
  have hO:Own (.sl E e) w (gh.f q) [gh.h q] xs:=r.cx.en q _ he
  have hal:∀q',Tab.al ((q,none) :: s.tab) q'→q'≠q∧s.tab.al q':=fun q' ⟨e',h⟩=>by
    rw[Qe] at h
    by_cases e2:q'=q
    · rw[if_pos e2] at h; cases h
    · rw[if_neg e2] at h; exact ⟨e2,e',h⟩
  have r2:=r.step (T:=(q,none) :: s.tab) (gh':=⟨gh.h,gh.f,fun g=>gh.N g∨g∈gh.f q⟩) (w':=w) ⟨fun q' e' h=> ?_,fun q1 q2 k1 k2 hne=>r.cx.dj q1 q2 (hal q1 k1).2 (hal q2 k2).2 hne,fun q' h=>r.cx.nd q' (hal q' h).2,fun q' h g hg hN=> ?_,fun g hN=> ?_⟩
    (fun q' h=> .inl ⟨(hal q' h).2,rfl,fun _=>rfl⟩) (fun g hg=>⟨.inl hg,rfl⟩) (Q2 w) (fun _ _ _=>rfl) (fun g hN=> ?_) (fun q' h g hg=> .inr ⟨q',(hal q' h).2,hg⟩)
  · exact ⟨_,r2.know h1 (pv:=lf (.dat (.sl E e) xs)) ⟨_,rfl,by rw[hv]; exact hO.rd fun g hg=> .inr hg⟩⟩
  · rw [Qe] at h
    by_cases e2:q'=q
    · rw[if_pos e2] at h; cases h
    · rw [if_neg e2] at h
      exact (r.cx.en q' e' h).mono (fun r' _ h'=>⟨(hal r' h').2,rfl⟩) (fun g hg=>⟨.inl hg,rfl⟩) rfl rfl fun _ _=>rfl
  · rcases hN with hN | hN
    · exact r.cx.no q' (hal q' h).2 g hg hN
    · exact r.cx.dj q' q (hal q' h).2 ⟨_,he⟩ (hal q' h).1 g hg hN
  · rcases hN with hN | hN
    · exact r.cx.nl g hN
    · exact Own.lt hO g hN
  · rcases hN with hN | hN
    · exact .inl hN
    · exact .inr (.inr ⟨q,⟨_,he⟩,hN,fun hl=>r.xn g hl (r.ox q ⟨_,he⟩ g hN hl)⟩)
end
end Go.Proofs.YtgpdhgadmjfokaaGreat
namespace Go.Proofs.YtgpdhgadmjfokaaGreat
open Go.RowKit
section
variable {A:Amb}{P:Program}{s:St}{x y z:Operand}{d:Nat}{T T' ty:TypeId}{pos:String}{af:Array Edge}{g:Option (Nat×Bool)}
def Qsd (P:Program)(T:TypeId)(offs:List (Nat×Nat))(zs:List Value):Prop:=
  ∃fs,P.underlying T=some (.struct fs)∧(∀w,(fs.mapM fun (f:Field)=>do pure (f.offset,← sizeOf f.type)).run P w= .ok offs.toArray w)∧zer P T=some (.agg zs.toArray)
theorem Qie (al:Nat→Prop)(gh:Gh)(w:World):∀zs:List Value,LVs al gh w (zs.map LV.val) zs
  | []=>rfl
  | z :: zs=>⟨z,zs,rfl,rfl,Qie al gh w zs⟩
theorem QoJ {zs:List Value}{offs:List (Nat×Nat)}{parts:Array (Nat×Operand)}{css:List (Bool×List LV)}{ls:List LV}(hb:Qsd P T offs zs)(hv:EvL A s (parts.toList.map (·.2)) css)(hok:∀c∈css,Zb s.tab c.2=true)
    (hf:Qdk offs (zs.map LV.val) ((parts.toList.map (·.1)).zip (css.map (·.2)))=some ls) (hn:Nat.blt d A.n=true):Does A P ⟨some d, .build T parts,ty,pos,af,g⟩ s (s.put d (ag ls)):=
  Qf rfl hn fun gh a w r=>by
    obtain ⟨fs,h1,h2,h3⟩:=hb
    have hvs:=hv.cms r
    have hlen:=hvs.len
    generalize hV:(parts.toList.map (·.2)).map a.eval=vs at*
    have hpl:parts.toList.length=vs.length:=by rw[← hV]; simp
    have hcells:∀(cs:List (Bool×List LV)) (vs:List Value),CmsR s.tab.al gh w cs vs→(∀c∈cs,Zb s.tab c.2=true)→∀(i:Nat) (c:Bool×List LV) (v:Value),cs[i]? =some c→vs[i]? =some v→∃us,v.cells=us.toArray∧LVs s.tab.al gh w c.2 us:=by
      intro cs
      induction cs with
      | nil=>intro vs _ _ i c v h; simp at h
      | cons c cs ih=>
        rintro vs ⟨v,vs',rfl,k1,k2⟩ hok i c' v' hc hv'
        cases i with
        | zero=>
          simp at hc hv'
          subst hc; subst hv'
          have hc:=hok c (aB ..)
          obtain ⟨b,ls⟩:=c
          exact CmR.cells k1 fun hb=>by
            subst hb
            obtain ⟨l,rfl,q1⟩:=k1
            simp only[Zb,d7] at hc
            obtain ⟨h3,h4⟩:=XT hc
            exact q1.oneCell h4 h3 fun q ⟨e,he⟩=>(r.cx.en q e he).oneCell
        | succ i=>exact ih vs' k2 (fun c hc=>hok c (aC _ hc)) i c' v' (by simpa using hc) (by simpa using hv')
    have hzl:((parts.toList.map (·.1)).zip (css.map (·.2))).length=vs.length:=by rw[List.length_zip,aN,aN]; omega
    obtain ⟨cur',k1,k2⟩:=KY (al:=s.tab.al) (gh:=gh) (w:=w) (cur:=zs.toArray) hf hzl.symm (fun i p v hp hv'=>by
      have hi:=List.getElem?_zip_eq_some.1 hp
      have h5:=hi.2
      rw[bg] at h5
      obtain ⟨c',h6,h7⟩:=bV.1 h5
      rw[← h7]
      exact hcells css vs hvs hok i c' v h6 hv') (by simpa using Qie s.tab.al gh w zs)
    refine ⟨.agg cur', ?_,cur'.toList,by simp,k2⟩
    have hz:(((parts.toList.map (·.1)).zip (css.map (·.2))).map (·.1)).zip vs=(parts.map fun p=>(p.1,a.eval p.2)).toList:=by
      rw[List.map_fst_zip (by rw[aN,aN]; omega),da,← hV,dy]
      generalize parts.toList=pl
      induction pl with
      | nil=>rfl
      | cons p ps ih=>simp[ih]
    rw[hz] at k1
    simp only[execOp,Instr.build,az,Wm h3,aG,run_underlying h1,h2,Value.cells]
    rw[k1]
    simp
end
theorem Qmd {A:Amb}{P:Program}{s:St}{fn:Func}(hr:fn.results= #[]):Res A P fn s (.tup []):=fun gh a w g=>by
  refine ⟨.tuple #[], ?_,[],rfl,rfl⟩
  rw[Wh,hr]; simp[XD,dx]
section
variable {A:Amb}{P:Program}{s:St}{x y z:Operand}{d:Nat}{T T' ty:TypeId}{pos:String}{af:Array Edge}{g:Option (Nat×Bool)}
variable {E:TypeId}{e:Ty}{xs:List e.Den}{q lo n:Nat}
theorem OwnL.takeW {w:World}(hf:e.flat=true):∀{xs:List e.Den} {fp:List Nat} {cs:List Value} (k:Nat),OwnL (Own e w) fp cs xs→OwnL (Own e w) [] (cs.take (k*e.wd)) (xs.take k)
  | [],_,_,k,h=>by rw[h.2]; simp[OwnL]
  | x :: xs,_,_,0,_=>by simp[OwnL]
  | x :: xs,_,_,k+1,⟨f1,f2,c1,c2,h1,h2,h3,h4⟩=>by
    have hl:=h3.len
    have hf1:=WA hf h3
    subst hf1
    rw[h2]
    refine ⟨[],[],c1,c2.take (k*e.wd),rfl, ?_,h3,OwnL.takeW hf k h4⟩
    rw[Nat.succ_mul,Nat.add_comm,← hl,List.take_length_add_append]
theorem Qa0 (t i:Nat)(hi:lk s.tm i=some (lf (.sub q e.wd 0 n)))(he:s.tab.ent q=some (.arr E e xs))(hn:n≤xs.length)(hf:e.flat=true)(hfr:Fresh s t)(hk0:A.k0≤t):
    Wk A s ⟨(i,lf (.ref t)) :: s.tm,(t,some (.arr E e (xs.take n))) :: (q,none) :: s.tab⟩:=fun a w r=>by
  obtain ⟨gh,r⟩:=r
  obtain ⟨v,h1,l,h2,h3⟩:=r.tm i _ hi
  simp only[aE,and_true] at h2
  subst h2
  obtain ⟨B,m,c,q1,q2⟩:=h3 ⟨_,he⟩
  have hO:Own (.sl E e) w (gh.f q) [gh.h q] xs:=r.cx.en q _ he
  have hv:v= .slice B n c:=by
    rw[q2]
    congr 1
    split
    · rfl
    · cases B with
      | none=>rfl
      | some b=>cases b; simp[Addr.add]
  have hO':Own (.sl E e) w (gh.f q) [v] (xs.take n):=by
    rcases hO with ⟨k1,k2,k3⟩ | ⟨b,cap,cur,fps,p2,p3,p4,p5,p6,p7,p8⟩
    · subst k3
      simp only[aE,and_true] at k2
      rw[q1] at k2
      simp only[Value.slice.injEq] at k2
      obtain ⟨rfl,rfl,rfl⟩:=k2
      have:n=0:=by simpa using hn
      subst this
      exact .inl ⟨k1,by rw[hv],by simp⟩
    · have hfp := p8.fp0 hf
      subst hfp
      simp only[aE,and_true] at p3
      rw[q1] at p3
      simp only[Value.slice.injEq] at p3
      obtain ⟨rfl,rfl,rfl⟩:=p3
      have hl:(xs.take n).length=n:=by rw[aw]; omega
      refine .inr ⟨b,c,cur,[],p2,by rw[hv,hl],p4,by rw[hl]; omega,p6,p7, ?_⟩
      rw[hl]
      have:=p8.takeW hf n
      rwa [List.take_take,cF (cw _ hn)] at this
  have r2:=r.make t hfr hk0 [q] (fun q' h=>by rw[aR.1 h]; exact ⟨_,he⟩) (Q2 w) (fun _ _ _=>rfl) hO' (r.cx.nd q ⟨_,he⟩) (fun g hg=> .inr ⟨q,aR.2 rfl,hg⟩)
  exact ⟨_,r2.know h1 (pv:=lf (.ref t)) ⟨_,rfl,fun _=>by simp⟩⟩
theorem QbG (z:Array Value)(n:Nat):Builtin.zeroCells z n=madeCells z (n*z.size):=rfl
theorem Hg {Tl E':TypeId}{zv:Value}(hx:Evl A s x (.sub q e.wd lo n))(he:s.tab.ent q=some (.arr E e xs))(hb:lo+n=xs.length)(hT:P.underlying Tl=some (.slice E'))(hz:zer P E'=some zv)(hzc:zv.cells.toList=e.zeros)(hzo:e.zeros.all (·.oneCell')=true)(hf:e.flat=true):
    Does A P ⟨none, .call ⟨.builtin .clear, #[x], #[Tl]⟩,ty,pos,af,g⟩ s ⟨s.tm,(q,some (.arr E e (xs.take lo++List.replicate n e.zero))) :: s.tab⟩:=fun a w K Q r hK=>by
  obtain ⟨gh,r⟩:=r
  have hO:Own (.sl E e) w (gh.f q) [gh.h q] xs:=r.cx.en q _ he
  have hO0:=hO
  obtain ⟨B,m,c,q1,q2⟩:=hx gh a w r ⟨_,he⟩
  have hzl:e.zeros.length=e.wd:=(Zm e w).len
  have hzs:zv.cells=e.zeros.toArray:=by rw[← hzc]
  rcases Nat.eq_zero_or_pos n with hn0 | hn0
  · subst hn0
    have hxs:xs.take lo++List.replicate 0 e.zero=xs:=by rw[bh (by omega)]; simp
    have e0:(execOp a.eval ⟨none, .call ⟨.builtin .clear, #[x], #[Tl]⟩,ty,pos,af,g⟩).run P w= .ok (.value (.tuple #[])) w:=by
      simp only[execOp,resolve,invoke,builtin,q2,az,b6,aG,dr,bc,dp]
      generalize (if c=lo then B else B.map (·.add (lo*e.wd)))=BB
      cases BB <;> simp[Builtin.clear_,run_underlying hT]
    unfold Oper.wp
    rw[e0,Oper.upon_value]
    refine hK _ _ ⟨gh,r.mod he (Q2 w) (fun _ _ _=>rfl) ?_⟩
    rw[hxs]
    exact hO0
  · rcases hO with ⟨_, _, h⟩ | ⟨b, cap, cur, fps, p2, p3, p4, p5, p6, p7, p8⟩
    · subst h; simp at hb; omega
    have hfp:=p8.fp0 hf
    subst hfp
    simp only[aE,and_true] at p3
    rw[q1] at p3
    simp only[Value.slice.injEq] at p3
    obtain ⟨rfl,rfl,rfl⟩:=p3
    rw[if_neg (by omega)] at q2
    simp only[du,Addr.add_lit,bW] at q2
    have hzz:(Builtin.zeroCells zv.cells n).toList=(List.replicate n e.zeros).flatten:=by
      have h2:=Hf e.zeros n (by rw[hzl]; exact X0 e)
      rw[QbG,hzs,List.size_toArray,h2]
    have hfl:((List.replicate n e.zeros).flatten).length=n*e.wd:=by simp[hzl]
    have hwd:=cw e.wd p5
    have hle:lo*e.wd+n*e.wd=xs.length*e.wd:=by rw[← hb,bK]
    have hst:=Wi (P:=P) (b:=b) (E:=E) ((List.replicate n e.zeros).flatten) (lo*e.wd) 0 w cur p4 (by rw[hfl,p7]; omega) (fun v hv=>by
      obtain ⟨l,hl,hv⟩:=List.mem_flatten.1 hv
      rw[cN hl] at hv
      exact aA.1 hzo v hv)
    rw[db] at hst
    have e0:(execOp a.eval ⟨none, .call ⟨.builtin .clear, #[x], #[Tl]⟩,ty,pos,af,g⟩).run P w= .ok (.value (.tuple #[])) (Xf w b (lo*e.wd) ((List.replicate n e.zeros).flatten)):=by
      obtain ⟨n,rfl⟩:∃k,n=k+1:=⟨n - 1,by omega⟩
      simp only[execOp,resolve,invoke,builtin,q2,az,b6,aG,dr,bc,dp]
      simp[Builtin.clear_,run_underlying hT,Wm hz,hzz,hst]
    unfold Oper.wp
    rw[e0,Oper.upon_value]
    obtain ⟨cur',m1,m2,m3⟩:=We b E (0,0) ((List.replicate n e.zeros).flatten) w (lo*e.wd) cur p4 (by rw[hfl,p7]; omega)
    refine hK _ _ ⟨gh,r.mod he (WX w b _ _) (fun g0 _ hg0=>Yb w b _ _ g0 fun h=>hg0 (by rw[p2,h]; simp)) ?_⟩
    have hl:(xs.take lo++List.replicate n e.zero).length=xs.length:=by simp; omega
    refine .inr ⟨b,c,cur',[],p2,by rw[q1,hl],m1,by omega,p6,by rw[m2]; exact p7, ?_⟩
    rw[hl]
    have hlist:cur'.toList.take (xs.length*e.wd)=(cur.toList.take (xs.length*e.wd)).take (lo*e.wd)++(List.replicate n e.zeros).flatten:=by
      have h9:=Ht (l:=cur.toList) (len:=xs.length*e.wd) (lo:=lo*e.wd) (cs:=(List.replicate n e.zeros).flatten) (by rw[hfl]; omega) (by simp; omega)
      rw[m3,h9,hfl,bJ (by simp; omega),bn]
    rw[hlist]
    have keep:∀{cs:List Value} {zs:List e.Den},OwnL (Own e w) [] cs zs→OwnL (Own e (Xf w b (lo*e.wd) ((List.replicate n e.zeros).flatten))) [] cs zs:=fun h=>h.mono fun f c x hf' ho=>ho.keep fun g hg=>absurd (hf' g hg) (by simp)
    exact (keep (p8.takeW hf lo)).append (OwnL.zeros e _ n)
end
end Go.Proofs.YtgpdhgadmjfokaaGreat
