/- Abstract states: own slices whose elements own slices, opened cell by cell. No program is named here. -/
import Derived.Test.YtfkmmpfdncopdaaGreatNAf
set_option linter.unusedSimpArgs false
set_option linter.unusedVariables false
set_option linter.unusedSectionVars false
namespace Go.Proofs.YtfkmmpfdncopdaaGreat
open Go.RowKit
section
variable {al:Nat→Prop}{gh:Gh}{w:World}
theorem LOs.app {l1 l2:List LV}{f1 f2:List Nat}{c1 c2:List Value}(h:LOs al gh w l1 f1 c1)(k:LOs al gh w l2 f2 c2):LOs al gh w (l1++l2) (f1++f2) (c1++c2):=by
  induction l1 generalizing f1 c1 with
  | nil=>obtain ⟨rfl,rfl⟩:=h; exact k
  | cons l ls ih=>obtain ⟨fa,fb,v,cs',rfl,rfl,h1,h2⟩:=h; exact ⟨fa,fb++f2,v,cs'++c2,by rw[aZ],rfl,h1,ih h2⟩
theorem HO {l1 l2:List LV}{f:List Nat}{c:List Value}(h:LOs al gh w (l1++l2) f c):∃f1 f2 c1 c2,f=f1++f2∧c=c1++c2∧LOs al gh w l1 f1 c1∧LOs al gh w l2 f2 c2:=by
  induction l1 generalizing f c with
  | nil=>exact ⟨[],f,[],c,rfl,rfl,⟨rfl,rfl⟩,h⟩
  | cons l ls ih=>
    obtain ⟨fa,fb,v,cs',rfl,rfl,h1,h2⟩:=h
    obtain ⟨g1,g2,d1,d2,rfl,rfl,h3,h4⟩:=ih h2
    exact ⟨fa++g1,g2,v :: d1,d2,by rw[aZ],rfl,⟨fa,g1,v,d1,rfl,rfl,h1,h3⟩,h4⟩
theorem LOs.len {ls:List LV}{f:List Nat}{cs:List Value}(h:LOs al gh w ls f cs):cs.length=ls.length:=by
  induction ls generalizing f cs with
  | nil=>rw[h.2]; rfl
  | cons l ls ih=>obtain ⟨f1,f2,v,cs',rfl,rfl,h1,h2⟩:=h; simp[ih h2]
theorem LOs.parts {ls:List LV}{f:List Nat}{cs:List Value}(h:LOs al gh w ls f cs){p:Nat}{l:LV}(hl:ls[p]? =some l):
    ∃fa f1 fb ca v cb,f=fa++(f1++fb)∧cs=ca++v :: cb∧ca.length=p∧LOs al gh w (ls.take p) fa ca∧LO al gh w l f1 v∧LOs al gh w (ls.drop (p+1)) fb cb:=by
  obtain ⟨hlt,hl2⟩:=ah.1 hl
  have e:ls=ls.take p++l :: ls.drop (p+1):=by
    conv=>lhs; rw[← bI p ls,br hlt,hl2]
  rw[e] at h
  obtain ⟨fa,f2,ca,c2,rfl,rfl,h1,h2⟩:=HO h
  obtain ⟨f1,fb,v,cb,rfl,rfl,h3,h4⟩:=h2
  refine ⟨fa,f1,fb,ca,v,cb,rfl,rfl, ?_,h1,h3,h4⟩
  rw[h1.len,aq]; omega
theorem LOs.put {ls:List LV}{p:Nat}{l:LV}{fa f1 fb:List Nat}{ca cb:List Value}{v:Value}(hp:p < ls.length)(h1:LOs al gh w (ls.take p) fa ca)(h2:LO al gh w l f1 v)(h3:LOs al gh w (ls.drop (p+1)) fb cb):
    LOs al gh w (ls.set p l) (fa++(f1++fb)) (ca++v :: cb):=by
  rw[List.set_eq_take_append_cons_drop,if_pos hp]
  exact h1.app ⟨f1,fb,v,cb,rfl,rfl,h2,h3⟩
theorem Own.los:∀{t:Ty} {f:List Nat} {cs:List Value} {x:t.Den},Own t w f cs x→LOs al gh w (leaves t x) f cs
  | .int,f,cs,x,h=>by have h1:=h.1; have h2:=h.2.1; subst h1; subst h2; exact ⟨[],[],_,[],rfl,rfl,h,rfl,rfl⟩
  | .bool,f,cs,x,h=>by have h1:=h.1; have h2:=h.2; subst h1; subst h2; exact ⟨[],[],_,[],rfl,rfl,h,rfl,rfl⟩
  | .str,f,cs,x,h=>by have h1:=h.1; have h2:=h.2.1; subst h1; subst h2; exact ⟨[],[],_,[],rfl,rfl,h,rfl,rfl⟩
  | .u8,f,cs,x,h=>by have h1:=h.1; have h2:=h.2; subst h1; subst h2; exact ⟨[],[],_,[],rfl,rfl,h,rfl,rfl⟩
  | .vl,f,cs,x,h=>by have h1:=h.1; have h2:=h.2; subst h1; subst h2; exact ⟨[],[],_,[],rfl,rfl,h,rfl,rfl⟩
  | .sl E e,f,cs,x,h=>by
    have hl:=h.len
    match cs,hl with
    | [v],_=>exact ⟨f,[],v,[],by simp,rfl,h,rfl,rfl⟩
  | .pr a b,_,_,_,⟨f1,f2,l,r,rfl,rfl,h2,h3⟩=>LOs.app (Own.los h2) (Own.los h3)
theorem LOs.own:∀{t:Ty} {f:List Nat} {cs:List Value} {x:t.Den},LOs al gh w (leaves t x) f cs→Own t w f cs x
  | .int,f,cs,x,⟨f1,f2,v,cs',h1,h2,h3,h4,h5⟩=>by subst h1; subst h2; subst h4; subst h5; rw[bF]; exact h3
  | .bool,f,cs,x,⟨f1,f2,v,cs',h1,h2,h3,h4,h5⟩=>by subst h1; subst h2; subst h4; subst h5; rw[bF]; exact h3
  | .str,f,cs,x,⟨f1,f2,v,cs',h1,h2,h3,h4,h5⟩=>by subst h1; subst h2; subst h4; subst h5; rw[bF]; exact h3
  | .u8,f,cs,x,⟨f1,f2,v,cs',h1,h2,h3,h4,h5⟩=>by subst h1; subst h2; subst h4; subst h5; rw[bF]; exact h3
  | .vl,f,cs,x,⟨f1,f2,v,cs',h1,h2,h3,h4,h5⟩=>by subst h1; subst h2; subst h4; subst h5; rw[bF]; exact h3
  | .sl E e,f,cs,x,⟨f1,f2,v,cs',h1,h2,h3,h4,h5⟩=>by subst h1; subst h2; subst h4; subst h5; rw[bF]; exact h3
  | .pr a b,f,cs,x,h=>by
    obtain ⟨f1,f2,c1,c2,rfl,rfl,h1,h2⟩:=HO h
    exact ⟨f1,f2,c1,c2,rfl,rfl,LOs.own h1,LOs.own h2⟩
def Q9 (e:Ty)(xs:List e.Den):List LV:=xs.flatMap (leaves e)
theorem OwnL.los {e:Ty}:∀{xs:List e.Den} {f:List Nat} {cs:List Value},OwnL (Own e w) f cs xs→LOs al gh w (Q9 e xs) f cs
  | [],_,_,h=>h
  | x :: xs,_,_,⟨f1,f2,c1,c2,rfl,rfl,h3,h4⟩=>by
    show LOs al gh w (leaves e x++Q9 e xs) _ _
    exact (Own.los h3).app (OwnL.los h4)
theorem LOs.ownL {e:Ty}:∀{xs:List e.Den} {f:List Nat} {cs:List Value},LOs al gh w (Q9 e xs) f cs→OwnL (Own e w) f cs xs
  | [],_,_,h=>h
  | x :: xs,_,_,h=>by
    have h:LOs al gh w (leaves e x++Q9 e xs) _ _:=h
    obtain ⟨f1,f2,c1,c2,rfl,rfl,h1,h2⟩:=HO h
    exact ⟨f1,f2,c1,c2,rfl,rfl,LOs.own h1,LOs.ownL h2⟩
theorem VS (e:Ty)(xs:List e.Den):(Q9 e xs).length=xs.length*e.wd:=by
  induction xs with
  | nil=>simp[Q9]
  | cons x xs ih=>
    show (leaves e x++Q9 e xs).length=_
    rw[ai,Z9,ih,au,bD,cN,Nat.add_comm]
theorem K6 {e:Ty}{xs:List e.Den}{i j:Nat}{x:e.Den}{l:LV}(hx:xs[i]? =some x)(hl:(leaves e x)[j]? =some l):(Q9 e xs)[i*e.wd+j]? =some l:=by
  induction xs generalizing i with
  | nil=>simp at hx
  | cons y ys ih=>
    show (leaves e y++Q9 e ys)[_]? =_
    have hj:j < e.wd:=by rw[← Z9 e x]; exact (ah.1 hl).1
    cases i with
    | zero=>
      simp at hx
      subst hx
      rw[Nat.zero_mul,bn,bf (by rw[Z9]; exact hj)]
      exact hl
    | succ i=>
      rw[bj (by rw[Z9,bD]; omega),Z9]
      rw[show (i+1)*e.wd+j - e.wd=i*e.wd+j by rw[bD]; omega]
      exact ih (by simpa using hx)
theorem KI {e:Ty}{xs:List e.Den}{i j:Nat}{x x':e.Den}{l:LV}(hx:xs[i]? =some x)(hl:leaves e x'=(leaves e x).set j l)(hj:j < e.wd):Q9 e (xs.set i x')=(Q9 e xs).set (i*e.wd+j) l:=by
  induction xs generalizing i with
  | nil=>simp at hx
  | cons y ys ih=>
    cases i with
    | zero=>
      simp at hx
      subst hx
      show leaves e x'++Q9 e ys=(leaves e y++Q9 e ys).set _ l
      rw[Nat.zero_mul,bn,List.set_append_left _ _ (by rw[Z9]; exact hj),hl]
    | succ i=>
      show leaves e y++Q9 e (ys.set i x')=(leaves e y++Q9 e ys).set _ l
      rw[List.set_append_right _ _ (by rw[Z9,bD]; omega),Z9,ih (by simpa using hx)]
      congr 2
      rw[bD]; omega
end
theorem H4 (e:Ty):∀(xs:List e.Den),Qw (Q9 e xs)=[]
  | []=>rfl
  | x :: xs=>by rw[show Q9 e (x :: xs)=leaves e x++Q9 e xs from rfl,XV,UJ,H4 e xs]; rfl
section
variable {A:Amb}{P:Program}{s:St}{x y:Operand}{d:Nat}{T T' ty:TypeId}{pos:String}{af:Array Edge}{g:Option (Nat×Bool)}
theorem Qen {q:Nat}{E:TypeId}{e:Ty}{xs:List e.Den}(he:s.tab.ent q=some (.arr E e xs))(hl:0 < xs.length):Wk A s ⟨s.tm,(q,some (.obx E e.wd xs.length (Q9 e xs) [])) :: s.tab⟩:=fun a w r=>by
  obtain ⟨gh,r⟩:=r
  have hO:Own (.sl E e) w (gh.f q) [gh.h q] xs:=r.cx.en q _ he
  rcases hO with ⟨_,_,h⟩ | ⟨b,cap,cur,fps,h2,h3,h4,h5,h6,h7,h8⟩
  · subst h; simp at hl
  · simp only [aI, and_true] at h3
    exact ⟨gh,r.mod he (ZE w) (fun _ _ _=>rfl) ⟨H4 e xs,b,cap,cur,fps,h3,h2,h4,h5,h6,h7,VS e xs,h8.los⟩⟩
theorem QbQ {q n:Nat}{E:TypeId}{e:Ty}{ls:List LV}{ov:List (Nat×LV)}(xs:List e.Den)(he:s.tab.ent q=some (.obx E e.wd n ls ov))(hn:n=xs.length)(hl:ovr ls ov=Q9 e xs):Wk A s ⟨s.tm,(q,some (.arr E e xs)) :: s.tab⟩:=fun a w r=>by
  subst hn
  obtain ⟨gh,r⟩:=r
  obtain ⟨h00,g,cap,cur,fps,h1,h2,h3,h4,h5,h6,h7,h8⟩:=r.cx.en q _ he
  refine ⟨gh,r.mod he (ZE w) (fun _ _ _=>rfl) ?_⟩
  refine .inr ⟨g,cap,cur,fps,h2,by rw[h1],h3,h4,h5,h6,(hl▸h8).ownL⟩
theorem HQ (t:Nat){q wd n p:Nat}{E E':TypeId}{e':Ty}{ys:List e'.Den}{ls:List LV}{ov:List (Nat×LV)}(he:s.tab.ent q=some (.obx E wd n ls ov))(hl:(ovr ls ov)[p]? =some (.dat (.sl E' e') ys))(hfr:Fresh s t)(hk0:A.k0≤t):
    Wk A s ⟨s.tm,(t,some (.arr E' e' ys)) :: (q,some (.obx E wd n ls ((p, .ref t) :: ov))) :: s.tab⟩:=fun a w r=>by
  obtain ⟨gh,r⟩:=r
  have hq:s.tab.al q:=⟨_,he⟩
  have hqt:q≠t:=fun h=>hfr.al (h▸hq)
  obtain ⟨h00,g,cap,cur,fps,h1,h2,h3,h4,h5,h6,h7,h8⟩:=r.cx.en q _ he
  obtain ⟨fa,f1,fb,ca,v,cb,k1,k2,k3,k4,k5,k6⟩:=h8.parts hl
  have hO:Own (.sl E' e') w f1 [v] ys:=k5
  have hpl:p < (ovr ls ov).length:=(ah.1 hl).1
  have hnd:=r.cx.nd q hq
  rw[h2,k1] at hnd
  have hnd1:=(bl.1 hnd)
  have hnd2:=b9.1 hnd1.2
  have hnd3:=b9.1 hnd2.2.1
  let gh':Gh:=⟨fun r=>if r=t then v else gh.h r,fun r=>if r=t then f1 else if r=q then g :: (fa++fb) else gh.f r,gh.N⟩
  have hal:∀r,Tab.al ((t,some (.arr E' e' ys)) :: (q,some (.obx E wd n ls ((p, .ref t) :: ov))) :: s.tab) r→r=t∨(r≠t∧s.tab.al r):=fun r' h=>by
    by_cases e1:r'=t
    · exact .inl e1
    · refine .inr ⟨e1, ?_⟩
      obtain ⟨e2,h⟩:=h
      rw[Qh,if_neg e1,Qh] at h
      by_cases e3:r'=q
      · rw[e3]; exact hq
      · rw[if_neg e3] at h; exact ⟨_,h⟩
  have hsub1:∀x∈f1,x∈gh.f q:=fun x hx=>by rw[h2,k1]; simp[hx]
  have hsubq:∀x∈g :: (fa++fb),x∈gh.f q:=fun x hx=>by
    rw[h2,k1]
    simp only[aE,aK] at hx ⊢
    rcases hx with h | h | h <;> simp[h]
  have hdis:∀x∈f1,x∉g :: (fa++fb):=fun x hx hm=>by
    rcases aE.1 hm with rfl | hm
    · exact hnd1.1 (aT _ (aQ _ hx))
    · rcases aK.1 hm with hm | hm
      · exact hnd2.2.2 x hm x (aQ _ hx) rfl
      · exact hnd3.2.2 x hx x hm rfl
  have hf':∀r',r'≠t→∀x∈gh'.f r',x∈gh.f r':=fun r' e1 x hx=>by
    simp only[gh',if_neg e1] at hx
    by_cases e2:r'=q
    · rw[if_pos e2] at hx; rw[e2]; exact hsubq x hx
    · rw[if_neg e2] at hx; exact hx
  have hft:gh'.f t=f1:=by simp[gh']
  have hfq:gh'.f q=g :: (fa++fb):=by simp[gh',hqt]
  have r2:=r.step (T:=(t,some (.arr E' e' ys)) :: (q,some (.obx E wd n ls ((p, .ref t) :: ov))) :: s.tab) (gh':=gh') (w':=w) ?_ ?_ (fun g hg=>⟨hg,rfl⟩) (ZE w) (fun _ _ _=>rfl) (fun g hg=> .inl hg) ?_
  · exact ⟨gh',r2⟩
  · refine ⟨fun r' e2 h => ?_, fun a b ha hb hne x hx hx' => ?_, fun r' h => ?_, fun r' h x hx => ?_, r.cx.nl⟩
    · rw [Qh] at h
      by_cases e1:r'=t
      · rw [if_pos e1] at h
        cases h
        subst e1
        show Own (.sl E' e') w (gh'.f r') [gh'.h r'] ys
        simpa [gh'] using hO
      · rw [if_neg e1, Qh] at h
        by_cases e3:r'=q
        · rw [if_pos e3] at h
          cases h
          subst e3
          refine ⟨h00,g,cap,cur,fa++fb,by simp[gh',e1,h1],hfq,h3,h4,h5,h6,by simpa [ovr] using h7, ?_⟩
          rw[k2]
          have hm:∀(l:List LV) (f:List Nat) (c:List Value),(∀r'∈Qw l,r'≠t)→LOs s.tab.al gh w l f c→LOs (Tab.al ((t,some (.arr E' e' ys)) :: (r',some (.obx E wd n ls ((p, .ref t) :: ov))) :: s.tab)) gh' w l f c:=fun l f c hlt h=>h.mono (fun r2 hr2 ha=>by
            rcases hal r2 ha with h9 | ⟨h9,h10⟩
            · exact absurd h9 (hlt r2 hr2)
            · exact ⟨h10,by simp[gh',h9]⟩) fun _ _=>rfl
          have htag:∀r2∈Qw (ovr ls ov),r2≠t:=fun r2 hr2 h=>hfr.en r' _ he (by show t∈KJ ov; rw[← h]; exact Qb5 h00 r2 hr2)
          have hput:=LOs.put (p:=p) (l:= .ref t) (f1:=[]) (v:=v) hpl (hm _ _ _ (fun r2 hr2=>htag r2 (Qet p r2 hr2)) k4) ⟨rfl,Rep.one hO.rep v (by simp),fun _=>by simp[gh']⟩ (hm _ _ _ (fun r2 hr2=>htag r2 (Qe3 _ r2 hr2)) k6)
          simpa [ovr] using hput
        · rw [if_neg e3] at h
          have h9:=r.cx.en r' e2 h
          refine h9.mono (fun r2 hr2 ha=> ?_) (fun g hg=>⟨hg,rfl⟩) (by simp[gh',e1]) (by simp[gh',e1,e3]) fun _ _=>rfl
          rcases hal r2 ha with h10 | ⟨h10,h11⟩
          · exact absurd (h10▸hr2) (hfr.en r' e2 h)
          · exact ⟨h11,by simp[gh',h10]⟩
    · rcases hal a ha with ha | ⟨ha, ka⟩ <;> rcases hal b hb with hb | ⟨hb, kb⟩
      · exact hne (ha.trans hb.symm)
      · subst ha
        rw[hft] at hx
        by_cases e3:b=q
        · subst e3; rw[hfq] at hx'; exact hdis x hx hx'
        · exact r.cx.dj q b hq kb (fun h=>e3 h.symm) x (hsub1 x hx) (hf' b hb x hx')
      · subst hb
        rw[hft] at hx'
        by_cases e3:a=q
        · subst e3; rw[hfq] at hx; exact hdis x hx' hx
        · exact r.cx.dj q a hq ka (fun h=>e3 h.symm) x (hsub1 x hx') (hf' a ha x hx)
      · exact r.cx.dj a b ka kb hne x (hf' a ha x hx) (hf' b hb x hx')
    · rcases hal r' h with h | ⟨h, k⟩
      · subst h; rw[hft]; exact hnd3.1
      · by_cases e3 : r' = q
        · subst e3
          rw[hfq]
          refine bl.2 ⟨fun hm=>hnd1.1 (by
            rcases aK.1 hm with hm | hm
            · exact aQ _ hm
            · exact aT _ (aT _ hm)),b9.2 ⟨hnd2.1,hnd3.2.1,fun a ha b hb=>hnd2.2.2 a ha b (aT _ hb)⟩⟩
        · have : gh'.f r' = gh.f r' := by simp [gh', h, e3]
          rw[this]; exact r.cx.nd r' k
    · rcases hal r' h with h | ⟨h, k⟩
      · subst h; rw[hft] at hx; exact r.cx.no q hq x (hsub1 x hx)
      · exact r.cx.no r' k x (hf' r' h x hx)
  · intro r' h
    rcases hal r' h with h | ⟨h,k⟩
    · exact .inr ⟨h▸hfr,h▸hk0⟩
    · exact .inl ⟨k,by simp[gh',h],fun _=>rfl⟩
  · intro r' h x hx
    rcases hal r' h with h | ⟨h,k⟩
    · subst h; rw[hft] at hx; exact .inr ⟨q,hq,hsub1 x hx⟩
    · exact .inr ⟨r',k,hf' r' h x hx⟩
theorem Qbl {q t wd n p:Nat}{E E':TypeId}{e':Ty}{ys:List e'.Den}{ls:List LV}{ov:List (Nat×LV)}(he:s.tab.ent q=some (.obx E wd n ls ov))(hl:(ovr ls ov)[p]? =some (.ref t))(ht:s.tab.ent t=some (.arr E' e' ys)):
    Wk A s ⟨s.tm,(q,some (.obx E wd n ls ((p, .dat (.sl E' e') ys) :: ov))) :: (t,none) :: s.tab⟩:=fun a w r=>by
  obtain ⟨gh,r⟩:=r
  have hq:s.tab.al q:=⟨_,he⟩
  have hta:s.tab.al t:=⟨_,ht⟩
  have hqt:q≠t:=fun h=>by rw[h,ht] at he; cases he
  obtain ⟨h00,g,cap,cur,fps,h1,h2,h3,h4,h5,h6,h7,h8⟩:=r.cx.en q _ he
  obtain ⟨fa,f1,fb,ca,v,cb,k1,k2,k3,k4,k5,k6⟩:=h8.parts hl
  obtain ⟨rfl,hone,hv⟩:=k5
  have hv:=hv hta
  have hO:Own (.sl E' e') w (gh.f t) [gh.h t] ys:=r.cx.en t _ ht
  have hpl:p < (ovr ls ov).length:=(ah.1 hl).1
  rw[cP] at k1
  have hndq:=r.cx.nd q hq
  rw[h2,k1] at hndq
  let gh':Gh:=⟨gh.h,fun r=>if r=q then g :: (fa++(gh.f t++fb)) else gh.f r,gh.N⟩
  have hal:∀r,Tab.al ((q,some (.obx E wd n ls ((p, .dat (.sl E' e') ys) :: ov))) :: (t,none) :: s.tab) r→r≠t∧s.tab.al r:=fun r' h=>by
    obtain ⟨e2,h⟩:=h
    rw[Qh] at h
    by_cases e1:r'=q
    · rw[e1]; exact ⟨hqt,hq⟩
    · rw [if_neg e1, Qh] at h
      by_cases e3:r'=t
      · rw[if_pos e3] at h; cases h
      · rw[if_neg e3] at h; exact ⟨e3,_,h⟩
  have hfq:gh'.f q=g :: (fa++(gh.f t++fb)):=by simp[gh']
  have hmem:∀r',∀x∈gh'.f r',x∈gh.f r'∨(r'=q∧x∈gh.f t):=fun r' x hx=>by
    by_cases e1:r'=q
    · subst e1
      rw[hfq] at hx
      rw[h2,k1]
      simp only[aE,aK] at hx ⊢
      rcases hx with h | h | h | h
      · exact .inl (.inl h)
      · exact .inl (.inr (.inl h))
      · exact .inr ⟨trivial,h⟩
      · exact .inl (.inr (.inr h))
    · simp only[gh',if_neg e1] at hx; exact .inl hx
  have r2:=r.step (T:=(q,some (.obx E wd n ls ((p, .dat (.sl E' e') ys) :: ov))) :: (t,none) :: s.tab) (gh':=gh') (w':=w) ?_ ?_ (fun g hg=>⟨hg,rfl⟩) (ZE w) (fun _ _ _=>rfl) (fun g hg=> .inl hg) ?_
  · exact ⟨gh',r2⟩
  · refine ⟨fun r' e2 h => ?_, fun a b ha hb hne x hx hx' => ?_, fun r' h => ?_, fun r' h x hx => ?_, r.cx.nl⟩
    · rw [Qh] at h
      by_cases e1:r'=q
      · rw [if_pos e1] at h
        cases h
        subst e1
        refine ⟨h00,g,cap,cur,fa++(gh.f t++fb),h1,hfq,h3,h4,h5,h6,by simpa [ovr] using h7, ?_⟩
        rw[k2]
        have hm:∀(l:List LV) (f:List Nat) (c:List Value),LOs s.tab.al gh w l f c→LOs (Tab.al ((r',some (.obx E wd n ls ((p, .dat (.sl E' e') ys) :: ov))) :: (t,none) :: s.tab)) gh' w l f c:=fun l f c h=>h.mono (fun r2 hr2 ha=>⟨(hal r2 ha).2,rfl⟩) fun _ _=>rfl
        rw[← hv] at hO
        exact LOs.put hpl (hm _ _ _ k4) hO (hm _ _ _ k6)
      · rw [if_neg e1, Qh] at h
        by_cases e3:r'=t
        · rw[if_pos e3] at h; cases h
        · rw [if_neg e3] at h
          exact (r.cx.en r' e2 h).mono (fun r2 hr2 ha=>⟨(hal r2 ha).2,rfl⟩) (fun g hg=>⟨hg,rfl⟩) rfl (by simp[gh',e1]) fun _ _=>rfl
    · obtain ⟨ha1, ha2⟩ := hal a ha
      obtain ⟨hb1,hb2⟩:=hal b hb
      rcases hmem a x hx with h | ⟨rfl,h⟩ <;> rcases hmem b x hx' with h' | ⟨rfl,h'⟩
      · exact r.cx.dj a b ha2 hb2 hne x h h'
      · exact r.cx.dj a t ha2 hta ha1 x h h'
      · exact r.cx.dj b t hb2 hta hb1 x h' h
      · exact hne rfl
    · obtain ⟨h9, h10⟩ := hal r' h
      by_cases e1:r'=q
      · subst e1
        rw[hfq]
        have hn1:=bl.1 hndq
        have hn2:=b9.1 hn1.2
        have hdj:∀x∈gh.f t,x∉gh.f r':=fun x hx hx'=>r.cx.dj t r' hta hq (fun h=>h9 h.symm) x hx hx'
        rw[h2,k1] at hdj
        refine bl.2 ⟨fun hm=> ?_,b9.2 ⟨hn2.1,b9.2 ⟨r.cx.nd t hta,hn2.2.1,fun a ha b hb e=>by subst e; exact hdj a ha (by simp[hb])⟩,fun a ha b hb e=> ?_⟩⟩
        · simp only [aK] at hm
          rcases hm with hm | hm | hm
          · exact hn1.1 (aQ _ hm)
          · exact hdj g hm (by simp)
          · exact hn1.1 (aT _ hm)
        · subst e
          rcases aK.1 hb with hb | hb
          · exact hdj a hb (by simp[ha])
          · exact hn2.2.2 a ha a hb rfl
      · have : gh'.f r' = gh.f r' := by simp [gh', e1]
        rw[this]; exact r.cx.nd r' h10
    · obtain ⟨h9, h10⟩ := hal r' h
      rcases hmem r' x hx with h' | ⟨rfl,h'⟩
      · exact r.cx.no r' h10 x h'
      · exact r.cx.no t hta x h'
  · intro r' h
    obtain ⟨h9,h10⟩:=hal r' h
    exact .inl ⟨h10,rfl,fun _=>rfl⟩
  · intro r' h x hx
    obtain ⟨h9,h10⟩:=hal r' h
    rcases hmem r' x hx with h' | ⟨rfl,h'⟩
    · exact .inr ⟨r',h10,h'⟩
    · exact .inr ⟨t,hta,h'⟩
theorem Xh {q wd n:Nat}{E E':TypeId}{ls:List LV}{ov:List (Nat×LV)}{i:Int}{bb:Bool}(hx:Evl A s x (.ref q))(he:s.tab.ent q=some (.obx E wd n ls ov))(hy:Evl A s y (dI i))(hT:P.underlying T=some (.slice E'))(hE:tsh P E'=some (bb,wd))(hn:Nat.blt d A.n=true)
    (h0:0≤i) (h1:i < n):Does A P ⟨some d, .indexAddr T x y,ty,pos,af,g⟩ s (s.put d (lf (.ept q wd i.toNat 0))):=
  Qg rfl hn fun gh a w r=>by
    have hi:=hy.i r
    have hv:a.eval x=gh.h q:=hx gh a w r ⟨_,he⟩
    obtain ⟨h00,g,cap,cur,fps,k1,k2,k3,k4,k5,k6,k7,k8⟩:=r.cx.en q _ he
    refine ⟨.pointer (some ⟨g,0+i.toNat*wd,none⟩), ?_,_,rfl,fun _=>⟨g,n,cap,k1,by simp⟩⟩
    simp only[execOp,hv,k1,hi,aw,XS hT hE h0 h1]
    simp
theorem Qlw {gh:Gh}{a:Act}{w:World}(r:Rg A s gh a w){q wd n p:Nat}{E:TypeId}{ls:List LV}{ov:List (Nat×LV)}{l:LV}(he:s.tab.ent q=some (.obx E wd n ls ov))(hl:(ovr ls ov)[p]? =some l){g m c:Nat}(hh:gh.h q= .slice (some ⟨g,0,none⟩) m c):
    ∃f v,LO s.tab.al gh w l f v∧w.cell? ⟨g,p,none⟩=some v:=by
  obtain ⟨h00,g',cap,cur,fps,h1,h2,h3,h4,h5,h6,h7,h8⟩:=r.cx.en q _ he
  rw[hh] at h1
  simp only[Value.slice.injEq,bk,Addr.mk.injEq,and_true] at h1
  obtain ⟨rfl,_,_⟩:=h1
  obtain ⟨fa,f1,fb,ca,v,cb,k1,k2,k3,k4,k5,k6⟩:=h8.parts hl
  refine ⟨f1,v,k5, ?_⟩
  have:(cur.toList.take (n*wd))[p]? =some v:=by
    rw[k2,bj (by omega),k3,Nat.sub_self]; rfl
  rw[be] at this
  split at this
  · simp only [World.cell?, h3]
    simpa using this
  · cases this
theorem KQ {q wd i j n m t:Nat}{E:TypeId}{ls:List LV}{ov:List (Nat×LV)}{E':TypeId}{e':Ty}{ys:List e'.Den}(hx:Evl A s x (.ept q wd i j))(he:s.tab.ent q=some (.obx E wd n ls ov))(hl:(ovr ls ov)[i*wd+j]? =some (.ref t))(ht:s.tab.ent t=some (.arr E' e' ys))(hT:tsh P T=some (false,m))(hn:Nat.blt d A.n=true):
    Does A P ⟨some d, .load T x,ty,pos,af,g⟩ s (s.put d (lf (.ref t))):=
  Qg rfl hn fun gh a w r=>by
    obtain ⟨g,m',c,h1,h2⟩:=hx gh a w r ⟨_,he⟩
    obtain ⟨f,v,k1,k2⟩:=Qlw r he hl h1
    refine ⟨v, ?_,_,rfl,fun h=>k1.2.2 h⟩
    simp only[execOp,h2,Instr.loadAt,Instr.sureAddr,aw,b5,aH,Z5 hT _ v k2]
theorem Ur {q wd i j n t t':Nat}{E E':TypeId}{e':Ty}{ys:List e'.Den}{ls:List LV}{ov:List (Nat×LV)}(hx:Evl A s x (.ept q wd i j))(he:s.tab.ent q=some (.obx E wd n ls ov))(hl:(ovr ls ov)[i*wd+j]? =some (.ref t))(hy:Evl A s y (.ref t'))(ht:s.tab.ent t'=some (.arr E' e' ys))(hT:tsh P T=some (false,1)):
    Does A P ⟨none, .store T x y,ty,pos,af,g⟩ s ⟨s.tm,(q,some (.obx E wd n ls ((i*wd+j, .ref t') :: ov))) :: s.tab⟩:=fun a w K Q r hK=>by
  obtain ⟨gh,r⟩:=r
  obtain ⟨g,m',c,h1,h2⟩:=hx gh a w r ⟨_,he⟩
  have hv:a.eval y=gh.h t':=hy gh a w r ⟨_,ht⟩
  have hone:(gh.h t').oneCell'=true:=(r.cx.en t' _ ht).oneCell
  obtain ⟨h00,g',cap,cur,fps,p1,p2,p3,p4,p5,p6,p7,p8⟩:=r.cx.en q _ he
  rw[h1] at p1
  simp only[Value.slice.injEq,bk,Addr.mk.injEq,and_true] at p1
  obtain ⟨rfl,rfl,rfl⟩:=p1
  obtain ⟨fa,f1,fb,ca,v,cb,k1,k2,k3,k4,k5,k6⟩:=p8.parts hl
  obtain ⟨rfl,_,_⟩:=k5
  have hpl:i*wd+j < (ovr ls ov).length:=(ah.1 hl).1
  have hcap:m'*wd≤cur.size:=by rw[p6]; exact bV _ p4
  have hcells:(a.eval y).cells=[a.eval y].toArray:=by
    rw[hv]; cases hq:gh.h t' <;> first | rfl | (rw[hq] at hone; simp[Value.oneCell'] at hone)
  have h10:=V5 (P:=P) (w:=w) (b:=g) (o:=i*wd+j) hT (a.eval y) [a.eval y] hcells rfl p3 (by omega) (by rw[hv]; simpa using hone)
  have e0:(execOp a.eval ⟨none, .store T x y,ty,pos,af,‹_›⟩).run P w= .ok .skip (Xs w g (i*wd+j) [a.eval y]):=by
    simp only[execOp,h2,Instr.storeAt,Instr.sureAddr,aw,b5,aH,h10]
  unfold Oper.wp
  rw[e0,Oper.upon_skip]
  obtain ⟨cur',m1,m2,m3⟩:=Ww g E (0,0) [a.eval y] w (i*wd+j) cur p3 (by simp; omega)
  have hoth:∀g0,g0≠g→(Xs w g (i*wd+j) [a.eval y]).heap[g0]? =w.heap[g0]? :=fun g0 h=>Yp _ _ _ _ _ h
  have hN:(g :: fps).Nodup:=by rw[← p2]; exact r.cx.nd q ⟨_,he⟩
  refine hK _ _ ⟨gh,r.mod he (Vj _ _ _ _) (fun g0 _ hg0=>hoth g0 fun h=>hg0 (by rw[p2,h]; simp)) ⟨h00,g,c,cur',fps,h1,p2,m1,p4,p5,by rw[m2]; exact p6,by simpa [ovr] using p7, ?_⟩⟩
  have hkeep:∀(l:List LV) (f:List Nat) (c:List Value),(∀x∈f,x∈fps)→LOs s.tab.al gh w l f c→LOs s.tab.al gh (Xs w g (i*wd+j) [a.eval y]) l f c:=fun l f c hf h=>h.mono (fun _ _ h=>⟨h,rfl⟩) fun x hx=>hoth x fun h=>(bl.1 hN).1 (h▸hf x hx)
  have hput:=LOs.put (p:=i*wd+j) (l:= .ref t') (f1:=[]) (v:=a.eval y) hpl (hkeep _ _ _ (fun x hx=>by rw[k1]; simp[hx]) k4) ⟨rfl,by rw[hv]; exact hone,fun _=>hv⟩ (hkeep _ _ _ (fun x hx=>by rw[k1]; simp[hx]) k6)
  rw[k1]
  have e2:cur'.toList.take (m'*wd)=ca++a.eval y :: cb:=by
    have hcl:(ca++v :: cb).length=m'*wd:=by rw[← k2]; simp; omega
    have e3:cur.toList=ca++v :: cb++cur.toList.drop (m'*wd):=by rw[← k2,bI]
    rw[m3]
    generalize cur.toList.drop (m'*wd)=rest at e3
    rw[e3,← k3]
    have t1:(ca++v :: cb++rest).take ca.length=ca:=by rw[aZ,d6]
    have t2:(ca++v :: cb++rest).drop (ca.length+[a.eval y].length)=cb++rest:=by
      rw[aZ]
      show (ca++(v :: cb++rest)).drop (ca.length+1)=_
      rw[List.drop_length_add_append]
      rfl
    rw[t1,t2]
    have hl2:(ca++a.eval y :: cb).length=m'*wd:=by simpa using hcl
    rw[show ca++[a.eval y]++(cb++rest)=(ca++a.eval y :: cb)++rest by simp,← hl2,d6]
  rw[e2]
  exact hput
end
def QiM:List LV→List LV→Prop
  | [],ls'=>ls'=[]
  | l :: ls,ls'=>∃l' r,ls'=l' :: r∧(l=l'∨∃E e,l= .val (.slice none 0 0)∧l'= .dat (.sl E e) [])∧QiM ls r
section
variable {A:Amb}{s:St}
theorem LVs.nils {al:Nat→Prop}{gh:Gh}{w:World}{ls ls':List LV}{vs:List Value}(h:LVs al gh w ls vs)(k:QiM ls ls'):LVs al gh w ls' vs:=by
  induction ls generalizing ls' vs with
  | nil=>rw[show ls'=[] from k]; exact h
  | cons l ls ih=>
    obtain ⟨v,vs',rfl,h1,h2⟩:=h
    obtain ⟨l',r,rfl,h3,h4⟩:=k
    refine ⟨v,vs',rfl, ?_,ih h2 h4⟩
    rcases h3 with rfl | ⟨E,e,rfl,rfl⟩
    · exact h1
    · rw [show v = .slice none 0 0 from h1]
      have:Own (.sl E e) w [] [.slice none 0 0] []:= .inl ⟨rfl,rfl,rfl⟩
      exact this.rd (by simp)
theorem Ev.nils {x:Operand}{b:Bool}{ls ls':List LV}(h:Ev A s x (b,ls))(k:QiM ls ls'):Ev A s x (b,ls'):=fun gh a w r=>by
  have h1:=h gh a w r
  cases b with
  | true=>obtain ⟨vs,h2,h3⟩:=h1; exact ⟨vs,h2,h3.nils k⟩
  | false=>
    obtain ⟨l,rfl,h3⟩:=h1
    obtain ⟨l',r,rfl,h4,h5⟩:=k
    rw[show r=[] from h5]
    have h6:LVs s.tab.al gh w [l] [a.eval x]:=⟨_,[],rfl,h3,rfl⟩
    obtain ⟨v,vs,h7,h8,_⟩:=h6.nils (ls':=[l']) ⟨l',[],rfl,h4,rfl⟩
    simp only[aI] at h7
    exact ⟨l',rfl,h7.1▸h8⟩
theorem Qn7 {x:Operand}{ls:List LV}{i:Nat}{n:Int}(h:Ev A s x (true,ls))(hi:ls[i]? =some (dI n)):∀gh a w,Rg A s gh a w→ -9223372036854775808≤n∧n≤9223372036854775807:=fun gh a w r=>by
  obtain ⟨vs,h1,h2⟩:=h gh a w r
  obtain ⟨v,_,h3⟩:=h2.get hi
  exact (LVR.int h3).2
end
theorem Qmb {P:Program}{f:FuncId}{args:List (Bool×List LV)}{T:Tab}{k:Nat}{O:PV→Tab→Prop}(h:∀O',O'=O→FC P f args T k O'):FC P f args T k O:=h O rfl
theorem Ql {P:Program}{f n:Nat}{fn:Func}{c:Code}{args:List (Bool×List LV)}{T:Tab}{k:Nat}{O:PV→Tab→Prop}(hf:P.funcs[f]? =some fn)(hb:fn.body=some c)(hl:Nat.ble args.length fn.ntmps=true)(hn:fn.ntmps=n)
    (h:∀O',O'=O→∀w0 N0 X h0 f0,AC ⟨w0,N0,X,n,k,h0,f0⟩ P c (fin ⟨w0,N0,X,n,k,h0,f0⟩ P fn (K4 O' k)) ⟨Hb 0 args,T⟩):FC P f args T k O:=
  Qmb fun O' hO=>FC.ren (Qsn hf hb hl fun A ha hk=>by
    obtain ⟨w0,N0,X,n',k',h0,f0⟩:=A
    obtain rfl:n'=n:=ha.trans hn
    obtain rfl:k'=k:=hk
    exact h O' hO w0 N0 X h0 f0)
section
variable {A:Amb}{P:Program}{s s':St}{Q:Exit→St→Prop}{ops:Array Oper}{l:List Oper}{op:Op}{d:Option Nat}{e:Nat}{ty:TypeId}{pos:String}{af:Array Edge}
theorem lc (h:Does A P ⟨d,op,ty,pos,af,none⟩ s s')(k:AL A P ops l Q s'):AL A P ops (⟨d,op,ty,pos,af,none⟩ :: l) Q s:=AL.cons rfl h k
theorem lm {t:Nat}{pv:PV}(h:lk s.tm t=some pv)(hn:Nat.blt e A.n=true)(k:AL A P ops l Q (s.put e pv)):AL A P ops (⟨some e, .move (.tmp t),ty,pos,af,none⟩ :: l) Q s:=AL.cons rfl (U8 h hn) k
theorem la {t:Nat}{pv:PV}(h:lk s.tm t=some pv)(hn:Nat.blt e A.n=true)(k:AL A P ops l Q (s.put e pv)):AL A P ops (⟨some e, .assign (.tmp t),ty,pos,af,none⟩ :: l) Q s:=AL.cons rfl (WK h hn) k
theorem ac {s2:St}(h:Does A P ⟨d,op,ty,pos,af,none⟩ s s')(e:s'=s2):Acts A P ops ⟨d,op,ty,pos,af,none⟩ s s2:=Qfo rfl h e
theorem am {t:Nat}{pv:PV}{s2:St}(h:lk s.tm t=some pv)(hn:Nat.blt e A.n=true)(he:s.put e pv=s2):Acts A P ops ⟨some e, .move (.tmp t),ty,pos,af,none⟩ s s2:=Qfo rfl (U8 h hn) he
end
@[reducible] def lI (x:Int):PV:=lf (dI x)
@[reducible] def lB (x:Bool):PV:=lf (dB x)
@[reducible] def lP (q o:Nat):PV:=lf (.ptr q o)
@[reducible] def lR (q:Nat):PV:=lf (.ref q)
@[reducible] def io (d:Nat) (p:PV):Item:=⟨some d,p,[]⟩
def dm:Nat→Nat→Nat→List Nat
  | 0,_,_=>[]
  | f+1,i,m=>bif Nat.beq m 0 then [] else bif Nat.beq (Nat.mod m 2) 1 then i :: dm f (i+1) (Nat.div m 2) else dm f (i+1) (Nat.div m 2)
def dms (l:List Nat):List (List Nat):=l.map (dm 200 0)
def sv (plan:List Item)(deps:List (List Nat))(s0:St)(i t:Nat):Option PV:=match Qpn plan deps i t with
  | true=>lk (pTm plan (QmF deps i) 0 s0.tm) t
  | false=>none
def se (plan:List Item)(deps:List (List Nat))(s0:St)(i q:Nat):Option Ent:=match Qr9 plan deps i q with
  | true=>(pTb plan (QmF deps i) 0 s0.tab).ent q
  | false=>none
section
variable {A:Amb}{P:Program}{s s' s0:St}{Q:Exit→St→Prop}{ops:Array Oper}{l:List Oper}{op:Op}{e t i:Nat}{ty T:TypeId}{pos:String}{af:Array Edge}{plan:List Item}{deps:List (List Nat)}
theorem At.k {pv:PV}(hs:At plan deps s0 i s)(h:sv plan deps s0 i t=some pv):lk s.tm t=some pv:=by
  unfold sv at h
  split at h
  · rename_i h2; rw[hs.tm t h2]; exact h
  · cases h
theorem At.n {x:Ent}(hs:At plan deps s0 i s)(q:Nat)(h:se plan deps s0 i q=some x):s.tab.ent q=some x:=by
  unfold se at h
  split at h
  · rename_i h2; rw[hs.en q h2]; exact h
  · cases h
theorem At.v {x:LV}(hs:At plan deps s0 i s)(h:sv plan deps s0 i t=some (lf x)):Evl A s (.tmp t) x:=Qa (hs.k h)
theorem At.w {b:Bool}{ls:List LV}(hs:At plan deps s0 i s)(h:sv plan deps s0 i t=some (.cm b ls)):Ev A s (.tmp t) (b,ls):=Qm (hs.k h)
theorem dxm {pv:PV}(h:sv plan deps s0 i t=some pv)(hn:Nat.blt e A.n=true):∀s,At plan deps s0 i s→Acts A P ops ⟨some e, .move (.tmp t),ty,pos,af,none⟩ s (Jk s ⟨some e,pv,[]⟩):=fun _ hs=>am (hs.k h) hn rfl
theorem dxt {pv:PV}(h:sv plan deps s0 i t=some pv)(hn:Nat.blt e A.n=true):∀s,At plan deps s0 i s→Acts A P ops ⟨some e, .assign (.tmp t),ty,pos,af,none⟩ s (Jk s ⟨some e,pv,[]⟩):=fun _ hs=>ac (WK (hs.k h) hn) rfl
theorem dxf {q off o f:Nat}{pv:PV}(hf:fld P T f=some o)(h:sv plan deps s0 i t=some (lf (.ptr q off)))(ha:((se plan deps s0 i q).isSome&&Nat.blt e A.n)=true)(hp:lf (.ptr q (off+o))=pv):∀s,At plan deps s0 i s→Acts A P ops ⟨some e, .fieldAddr T (.tmp t) f,ty,pos,af,none⟩ s (Jk s ⟨some e,pv,[]⟩):=fun s hs=>by
  subst hp
  simp only[aL] at ha
  obtain ⟨x,hx⟩:=b7.1 ha.1
  exact ac (Ux (hs.v h) hf (by rw[hs.n _ hx]; rfl) ha.2) rfl
theorem dxn {q off:Nat}{pv:PV}(h:sv plan deps s0 i t=some (lf (.ptr q off)))(ha:((se plan deps s0 i q).isSome&&Nat.blt e A.n)=true)(hp:lf (.ptr q off)=pv):∀s,At plan deps s0 i s→Acts A P ops ⟨some e, .nilCheck (.tmp t),ty,pos,af,none⟩ s (Jk s ⟨some e,pv,[]⟩):=fun s hs=>by
  subst hp
  simp only[aL] at ha
  obtain ⟨x,hx⟩:=b7.1 ha.1
  exact ac (Ho (hs.v h) (by rw[hs.n _ hx]; rfl) ha.2) rfl
theorem dxl {q off n:Nat}{E:TypeId}{cs:List LV}{pv:PV}{x:LV}(hT:tsh P T=some (false,n))(h:sv plan deps s0 i t=some (lf (.ptr q off)))(he:se plan deps s0 i q=some (.box E cs))(hl:cs[off]? =some x)(hn:Nat.blt e A.n=true)(hp:lf x=pv):
    ∀s,At plan deps s0 i s→Acts A P ops ⟨some e, .load T (.tmp t),ty,pos,af,none⟩ s (Jk s ⟨some e,pv,[]⟩):=fun s hs=>by
  subst hp
  exact ac (KR (hs.v h) (hs.n _ he) hT hl hn) rfl
theorem dxa {q off n:Nat}{E:TypeId}{cs:List LV}{pv:PV}(hT:tsh P T=some (true,n))(h:sv plan deps s0 i t=some (lf (.ptr q off)))(he:se plan deps s0 i q=some (.box E cs))(hl:(Nat.ble (off+n) cs.length&&Nat.blt e A.n)=true)(hp:ag ((cs.drop off).take n)=pv):
    ∀s,At plan deps s0 i s→Acts A P ops ⟨some e, .load T (.tmp t),ty,pos,af,none⟩ s (Jk s ⟨some e,pv,[]⟩):=fun s hs=>by
  subst hp
  simp only[aL] at hl
  exact ac (UP (hs.v h) (hs.n _ he) hT hl.1 hl.2) rfl
theorem dxo {j d:Nat}{b:Bool}(hd:(ops[j]?).bind (·.dst)=some d)(hb:sv plan deps s0 i d=some (lf (dB (!b))))(hn:Nat.blt e A.n=true):∀s,At plan deps s0 i s→Acts A P ops ⟨some e,op,ty,pos,af,some (j,b)⟩ s (Jk s ⟨some e,lf (.val undef),[]⟩):=fun _ hs=>
  Qn2 rfl hd (hs.k hb) rfl hn
theorem day {s2:St}{j d:Nat}{b:Bool}(hd:(ops[j]?).bind (·.dst)=some d)(hb:lk s.tm d=some (lf (dB b)))(h:Does A P ⟨some e,op,ty,pos,af,some (j,b)⟩ s s')(he:s'=s2):Acts A P ops ⟨some e,op,ty,pos,af,some (j,b)⟩ s s2:=QjW rfl hd hb h he
theorem lgn {j d:Nat}{b:Bool}(hd:(ops[j]?).bind (·.dst)=some d)(hb:lk s.tm d=some (lf (dB (!b))))(hn:Nat.blt e A.n=true)(k:AL A P ops l Q (s.put e (lf (.val undef)))):AL A P ops (⟨some e,op,ty,pos,af,some (j,b)⟩ :: l) Q s:=Qge rfl hd hb k hn
theorem lgy {d':Option Nat}{j d:Nat}{b:Bool}(hd:(ops[j]?).bind (·.dst)=some d)(hb:lk s.tm d=some (lf (dB b)))(h:Does A P ⟨d',op,ty,pos,af,some (j,b)⟩ s s')(k:AL A P ops l Q s'):AL A P ops (⟨d',op,ty,pos,af,some (j,b)⟩ :: l) Q s:=Qej rfl hd hb h k
theorem dw {id:Nat}{y:Code}(plan:List Item)(ms:List Nat)(hm:P.follows .mixedOrders=true)(hn:l.length=plan.length)(hB:(QbJ l.toArray (dms ms) plan.length&&QbX plan (dms ms)&&JO l.toArray plan.length)=true)
    (H:ActsL A P l.toArray plan (dms ms) s0 l plan 0) (k:AC A P y Q (stD plan s0 fun _=>true)):AC A P (.seq (.region id l.toArray true) y) Q s0:=ZS (QbM plan (dms ms) hm hn hB H k)
theorem dv {id:Nat}(plan:List Item)(ms:List Nat)(hm:P.follows .mixedOrders=true)(hn:l.length=plan.length)(hB:(QbJ l.toArray (dms ms) plan.length&&QbX plan (dms ms)&&JO l.toArray plan.length)=true)
    (H:ActsL A P l.toArray plan (dms ms) s0 l plan 0) (k:Q .normal (stD plan s0 fun _=>true)):AC A P (.region id l.toArray true) Q s0:=QbM plan (dms ms) hm hn hB H k
theorem dz {id:Nat}{y:Code}{Q':Exit→St→Prop}(plan:List Item)(ms:List Nat)(hm:P.follows .mixedOrders=true)(hn:l.length=plan.length)(hB:(QbJ l.toArray (dms ms) plan.length&&QbX plan (dms ms)&&JO l.toArray plan.length)=true)
    (H:ActsL A P l.toArray plan (dms ms) s0 l plan 0) (k:AC A P y Q' (stD plan s0 fun _=>true)):AC A P (.region id l.toArray true) (Kv (AC A P y Q') Q) s0:=QbM plan (dms ms) hm hn hB H k
end
end Go.Proofs.YtfkmmpfdncopdaaGreat
namespace Go.Proofs.YtfkmmpfdncopdaaGreat
open Go.RowKit
section
variable {A:Amb}{P:Program}{s:St}{x y:Operand}{d:Nat}{T T' ty:TypeId}{pos:String}{af:Array Edge}{g:Option (Nat×Bool)}
variable {T' E:TypeId}
theorem Qcu (w:World)(T T' E:TypeId)(c:Nat)(hs:P.underlying T=some (.slice E))(he:P.underlying E=some (.int .u8))(hd:P.underlying T'=some .string):
    (convert T T' (.slice none 0 c)).run P w= .ok (.string ByteArray.empty) w:=by
  rw[run_convert_bytes_string w T T' E none 0 c hs he hd]
  simp[Conv.bytesToString,b5]
theorem Qee {ys:List UInt8}{a:Act}{w:World}(hy:Rep (.sl E .u8) w [a.eval x] ys)(hs:P.underlying T=some (.slice E))(he:P.underlying E=some (.int .u8))(hd:P.underlying T'=some .string):
    (convert T T' (a.eval x)).run P w= .ok (.string ⟨ys.toArray⟩) w:=by
  obtain ⟨B,c,hv,h1,h2⟩:=hy.slv
  rw[hv] at hy ⊢
  cases ys with
  | nil=>
    cases B with
    | none=>exact Qcu w T T' E c hs he hd
    | some b=>exact run_convert_bytes_back w T T' E b c [] hs he hd (by simp)
  | cons z zs=>
    obtain ⟨b,o,ds,rfl,_,_⟩:=hy.at_ (i:=0) (x:=z) rfl
    refine run_convert_bytes_back w T T' E ⟨b,o,none⟩ c (z :: zs) hs he hd fun j hj=> ?_
    obtain ⟨b',o',ds,e1,e2,e3⟩:=hy.at_ (aa hj)
    simp only[bk,Addr.mk.injEq] at e1
    obtain ⟨rfl,rfl,_⟩:=e1
    have e4:ds=_:=e2
    have:=e3 0 _ (by rw[e4]; rfl)
    have e5:(⟨b,o,none⟩:Addr).add j=⟨b,o+j*Ty.u8.wd+0,none⟩:=by rw[Addr.add_lit]; simp[Ty.wd]
    rw[e5]; exact this
theorem VU {ys:List UInt8}(hy:JT A s x (.sl E .u8) ys)(hs:P.underlying T=some (.slice E))(he:P.underlying E=some (.int .u8))(hd:P.underlying T'=some .string)(hn:Nat.blt d A.n=true):
    Does A P ⟨some d, .convert T T' x,ty,pos,af,g⟩ s (s.put d (lf (dS ⟨ys.toArray⟩))):=
  Qg rfl hn fun gh a w r=>by
    have h:=hy gh a w r
    obtain ⟨B,c,hv,h1,h2⟩:=h.slv
    refine ⟨_, ?_,_,rfl,Qef (x:=⟨ys.toArray⟩) ?_⟩
    · simp only [execOp, aw]
      rw[Qee h hs he hd]
      rfl
    · show ys.toArray.size ≤ maxLen
      simp; omega
theorem Rg.drewR {gh:Gh}{a:Act}{w:World}(r:Rg A s gh a w):Rg A s gh a w.drew:=
  r.step (T:=s.tab) ⟨fun q e h=>(r.cx.en q e h).mono (fun _ _ h=>⟨h,rfl⟩) (fun g hg=>⟨hg,rfl⟩) rfl rfl (fun _ _=>rfl),r.cx.dj,r.cx.nd,r.cx.no,r.cx.nl⟩ (fun q h=> .inl ⟨h,rfl,fun _=>rfl⟩) (fun g h=>⟨h,rfl⟩) ⟨rfl,rfl,rfl,aO _⟩
    (fun _ _ _=>rfl) (fun g h=> .inl h) (fun q h g hg=> .inr ⟨q,h,hg⟩)
theorem QeR (t:Nat){b:ByteArray}(hx:Evl A s x (dS b))(hs:P.underlying T=some .string)(hd:P.underlying T'=some (.slice E))(he:P.underlying E=some (.int .u8))(hn:Nat.blt d A.n=true)(hfr:Fresh s t)(hk0:A.k0≤t):
    Does A P ⟨some d, .convert T T' x,ty,pos,af,g⟩ s (s.new d t (.ref t) (.bys E b.toList)):=fun a w K Q r hK=>by
  obtain ⟨gh,r⟩:=r
  have hv:Rep .str w [a.eval x] b:=Rd.rep (hx gh a w r)
  obtain ⟨hv1,hv2⟩:=hv
  simp only[aI,and_true] at hv1
  have hbl:b.toList.length=b.size:=by simp[bc]
  have e:(execOp a.eval ⟨some d, .convert T T' x,ty,pos,af,g⟩).run P w= .ok (.value (.slice (some ⟨w.heap.size,0,none⟩) b.size (grownCap w b.size 0 E))) (w.drew.alloc (.cells (bytesRow b (grownCap w b.size 0 E)) E ((bytesRow b (grownCap w b.size 0 E)).size,(bytesRow b (grownCap w b.size 0 E)).size+1))):=by
    simp only[execOp,hv1,aw,run_bytes_of_string w T T' E b hs hd he]
    simp
  unfold Oper.wp
  rw[e,Oper.upon_value]
  have hc1:=grownCap_ge w b.size 0 E
  have hc2:=grownCap_le_maxLen w b.size 0 E hv2
  refine hK _ _ ⟨_,(r.drewR.grow t hfr hk0 _ (.slice (some ⟨w.heap.size,0,none⟩) b.size (grownCap w b.size 0 E)) [w.heap.size] (.bys E b.toList) (by simp) (by simp) (by simp[Ent.tags]) ?_).put (aG hn) (pv:=lf (.ref t)) ⟨_,rfl,fun _=>by simp⟩⟩
  refine ⟨w.heap.size,grownCap w b.size 0 E,bytesRow b (grownCap w b.size 0 E),by simp[hbl],by simp,⟨_,heap_alloc_new w.drew _, .inr rfl⟩,by omega,hc2, ?_, ?_⟩
  · simp only [bytesRow, Array.size_append, Array.size_map, Array.size_replicate]
    show b.size+_=_
    omega
  · simp only [bytesRow, Array.toList_append, cW]
    rw[List.take_append_of_le_length (by simp[hbl]),aU (by simp[hbl]),bc]
theorem Qa2 {gh:Gh}{a:Act}{w:World}(r:Rg A s gh a w){q:Nat}{l:List UInt8}(he:s.tab.ent q=some (.bys E l)):∃g cap cur,gh.h q= .slice (some ⟨g,0,none⟩) l.length cap∧gh.f q=[g]∧Row w g cur E∧l.length≤cap∧cap≤maxLen∧cur.size=cap∧cur.toList.take l.length=l.map fun b=>Value.int .u8 b.toNat:=
  r.cx.en q _ he
theorem Qf6 {cur:Array Value}{l:List UInt8}(h:cur.toList.take l.length=l.map fun b=>Value.int .u8 b.toNat){i:Nat}{z:UInt8}(hz:l[i]? =some z):cur[i]? =some (.int .u8 z.toNat):=by
  have h1:(cur.toList.take l.length)[i]? =some (.int .u8 z.toNat):=by rw[h,bq,hz]; rfl
  rw[be] at h1
  split at h1
  · simpa using h1
  · cases h1
theorem Ul {q:Nat}{l:List UInt8}{E':TypeId}{i:Int}{bb:Bool}(hx:Evl A s x (.ref q))(he:s.tab.ent q=some (.bys E l))(hy:Evl A s y (dI i))(hT:P.underlying T=some (.slice E'))(hE:tsh P E'=some (bb,1))(hn:Nat.blt d A.n=true)
    (h0:0≤i) (h1:i < l.length):Does A P ⟨some d, .indexAddr T x y,ty,pos,af,g⟩ s (s.put d (lf (.ept q 1 i.toNat 0))):=
  Qg rfl hn fun gh a w r=>by
    have hi:=hy.i r
    have hv:a.eval x=gh.h q:=hx gh a w r ⟨_,he⟩
    obtain ⟨b,cap,cur,h2,h3,h4,h5,h6,h7,h8⟩:=Qa2 r he
    refine ⟨.pointer (some ⟨b,0+i.toNat*1,none⟩), ?_,_,rfl,fun _=>⟨b,l.length,cap,h2,by simp⟩⟩
    simp only[execOp,hv,h2,hi,aw,XS hT hE h0 h1]
    simp
theorem Qhd {q i n:Nat}{l:List UInt8}{z:UInt8}(hx:Evl A s x (.ept q 1 i 0))(he:s.tab.ent q=some (.bys E l))(hz:l[i]? =some z)(hT:tsh P T=some (false,n))(hn:Nat.blt d A.n=true):
    Does A P ⟨some d, .load T x,ty,pos,af,g⟩ s (s.put d (lf (.dat .u8 z))):=
  Qg rfl hn fun gh a w r=>by
    obtain ⟨g,m,c,h1,h2⟩:=hx gh a w r ⟨_,he⟩
    obtain ⟨b,cap,cur,k1,k2,k3,k4,k5,k6,k7⟩:=Qa2 r he
    rw[h1] at k1
    simp only[Value.slice.injEq,bk,Addr.mk.injEq,and_true] at k1
    obtain ⟨rfl,rfl,rfl⟩:=k1
    refine ⟨.int .u8 z.toNat, ?_,_,rfl,Own.rd (w:=w) (N:=gh.N) (t:= .u8) (fp:=[]) ⟨rfl,rfl⟩ (by simp)⟩
    have hc:w.cell? ⟨g,i*1+0,none⟩=some (.int .u8 z.toNat):=by rw[k3.cell,cX,dk]; exact Qf6 k7 hz
    simp only[execOp,h2,Instr.loadAt,Instr.sureAddr,aw,b5,aH,Z5 hT _ _ hc]
theorem Qe7 {w:World}{b o:Nat}{v u:Value}(hT:tsh P T=some (false,1))(hv:v.cells= #[v])(h1:v.oneCell'=true)(hc:w.cell? ⟨b,o,none⟩=some u)(hf:w.frozen? ⟨b,o,none⟩=false):
    (storeVar T ⟨b,o,none⟩ v).run P w= .ok () (w.setCell ⟨b,o,none⟩ v):=by
  simp only[storeVar,aw,Yu hT,aH,hv]
  simp[storeCells,aw,Addr.add_lit,run_store P w _ v .plain h1,stored,hc,hf,aH]
theorem Qad {q i:Nat}{l:List UInt8}{z:UInt8}(hx:Evl A s x (.ept q 1 i 0))(he:s.tab.ent q=some (.bys E l))(hi:i < l.length)(hy:Evl A s y (.dat .u8 z))(hT:tsh P T=some (false,1)):
    Does A P ⟨none, .store T x y,ty,pos,af,g⟩ s ⟨s.tm,(q,some (.bys E (l.set i z))) :: s.tab⟩:=fun a w K Q r hK=>by
  obtain ⟨gh,r⟩:=r
  obtain ⟨g,m,c,h1,h2⟩:=hx gh a w r ⟨_,he⟩
  obtain ⟨b,cap,cur,k1,k2,k3,k4,k5,k6,k7⟩:=Qa2 r he
  rw[h1] at k1
  simp only[Value.slice.injEq,bk,Addr.mk.injEq,and_true] at k1
  obtain ⟨rfl,rfl,rfl⟩:=k1
  have hv:Rep .u8 w [a.eval y] z:=Rd.rep (hy gh a w r)
  have hv:[a.eval y]=[.int .u8 z.toNat]:=hv
  simp only[aI,and_true] at hv
  have hlt:i < cur.size:=by omega
  have hc:w.cell? ⟨g,i,none⟩=some cur[i]:=by rw[k3.cell]; simp[hlt]
  have hf:=k3.soft hlt
  have e0:(execOp a.eval ⟨none, .store T x y,ty,pos,af,‹_›⟩).run P w= .ok .skip (w.setCell ⟨g,i,none⟩ (.int .u8 z.toNat)):=by
    have h3:=Qe7 (P:=P) (w:=w) (b:=g) (o:=i) (v:= .int .u8 z.toNat) hT rfl rfl hc hf
    simp only[execOp,h2,hv,Instr.storeAt,Instr.sureAddr,aw,b5,aH,cX,dk,h3]
  unfold Oper.wp
  rw[e0,Oper.upon_skip]
  obtain ⟨f,p1,p2⟩:=k3
  obtain ⟨cur',m1,m2,m3⟩:=Ww g E f [.int .u8 z.toNat] w i cur p1 (by simp; omega)
  refine hK _ _ ⟨gh,r.mod he (Vj w g i [.int .u8 z.toNat]) (fun g0 _ hg0=>Yp w g i [.int .u8 z.toNat] g0 fun h=>hg0 (by rw[k2,h]; simp)) ⟨g,c,cur',by simpa using h1,k2,⟨f,m1,by rw[m2]; exact p2⟩,by simpa using k4,k5,m2.trans k6, ?_⟩⟩
  rw[m3,aD]
  have e1:l.map (fun b=>Value.int .u8 b.toNat)=cur.toList.take l.length:=k7.symm
  rw[List.map_set,e1]
  apply bA
  intro j
  have hcl:cur.toList.length=cur.size:=by simp
  rw[bz,be,aq]
  by_cases hj:j < l.length
  · rw [if_pos hj]
    by_cases e2:i=j
    · subst e2
      rw[if_pos rfl,if_pos (by omega),aZ,bj (by simp[aq]; omega)]
      simp[aq,cu (show i≤cur.size by omega)]
    · rw [if_neg e2, be, if_pos hj]
      rcases Nat.lt_or_gt_of_ne e2 with h | h
      · rw [aZ, bj (by rw [aq]; omega), aq, bj (by simp; omega), cC]
        congr 1
        simp
        omega
      · rw[aZ,bf (by rw[aq]; omega),be,if_pos h]
  · rw[if_neg hj,if_neg (by omega),be,if_neg hj]
theorem Qm4 {q:Nat}{l:List UInt8}(h:Evl A s x (.ref q))(he:s.tab.ent q=some (.bys E l)):JT A s x (.sl E .u8) l:=fun gh a w r=>by
  rw[show a.eval x=gh.h q from h gh a w r ⟨_,he⟩]
  obtain ⟨g,cap,cur,k1,k2,k3,k4,k5,k6,k7⟩:=Qa2 r he
  rw[k1]
  refine ⟨_,cap,rfl,k4,k5,fun _=>⟨g,0,rfl,fun i z hz=>⟨[.int .u8 z.toNat],rfl,fun j u hu=> ?_⟩⟩⟩
  cases j with
  | zero=>
    obtain rfl:Value.int .u8 z.toNat=u:=by simpa using hu
    rw[k3.cell]
    simpa [Ty.wd] using Qf6 k7 hz
  | succ j=>simp at hu
end
end Go.Proofs.YtfkmmpfdncopdaaGreat
