/- Abstract states: struct literals of types with maps; clearing the end of an own slice; an own slice cut short; keys that are structs. No program is named here. -/
import Derived.Test.YtgpdhgadmjfokaaGreatHAt
import Derived.Test.YtgpdhgadmjfokaaGreatHAe
import Derived.DeepKeys3
import Derived.Test.YtgpdhgadmjfokaaGreatHAf
import Derived.Test.YtgpdhgadmjfokaaGreatHAl
import Derived.Laws.Shifts
import Derived.Laws.BitsAllLaws
import Derived.Test.YtgpdhgadmjfokaaGreatHAk
import Derived.Sort.EveryDepth
import Derived.Sort.OwnSortedInts
import Derived.Shelf.Sort.AssemblyIn
set_option linter.unusedSimpArgs false
set_option linter.unusedVariables false
set_option linter.unusedSectionVars false
namespace Go.Proofs.YtgpdhgadmjfokaaGreat
open Go.RowKit
section
variable {A:Amb}{P:Program}{s:St}{x y z:Operand}{d:Nat}{T T' ty:TypeId}{pos:String}{af:Array Edge}{g:Option (Nat×Bool)}
def Qr7 (P:Program)(T:TypeId)(offs:List (Nat×Nat))(zs:List Value):Prop:=
  ∃fs,P.underlying T=some (.struct fs)∧(∀w,(fs.mapM fun (f:Field)=>do pure (f.offset,← sizeOf f.type)).run P w= .ok offs.toArray w)∧zer P T=some (.agg zs.toArray)
theorem QiA (al:Nat→Prop)(gh:Gh)(w:World):∀zs:List Value,LVs al gh w (zs.map LV.val) zs
  | []=>rfl
  | z :: zs=>⟨z,zs,rfl,rfl,QiA al gh w zs⟩
theorem Qn6 {zs:List Value}{offs:List (Nat×Nat)}{parts:Array (Nat×Operand)}{css:List (Bool×List LV)}{ls:List LV}(hb:Qr7 P T offs zs)(hv:EvL A s (parts.toList.map (·.2)) css)(hok:∀c∈css,Zc s.tab c.2=true)
    (hf:QcJ offs (zs.map LV.val) ((parts.toList.map (·.1)).zip (css.map (·.2)))=some ls) (hn:Nat.blt d A.n=true):Does A P ⟨some d, .build T parts,ty,pos,af,g⟩ s (s.put d (ag ls)):=
  Qe rfl hn fun gh a w r=>by
    obtain ⟨fs,h1,h2,h3⟩:=hb
    have hvs:=hv.cms r
    have hlen:=hvs.len
    generalize hV:(parts.toList.map (·.2)).map a.eval=vs at*
    have hpl:parts.toList.length=vs.length:=by rw[← hV]; simp
    have hcells:∀(cs:List (Bool×List LV)) (vs:List Value),CmsR s.tab.al gh w cs vs→(∀c∈cs,Zc s.tab c.2=true)→∀(i:Nat) (c:Bool×List LV) (v:Value),cs[i]? =some c→vs[i]? =some v→∃us,v.cells=us.toArray∧LVs s.tab.al gh w c.2 us:=by
      intro cs
      induction cs with
      | nil=>intro vs _ _ i c v h; simp at h
      | cons c cs ih=>
        rintro vs ⟨v,vs',rfl,k1,k2⟩ hok i c' v' hc hv'
        cases i with
        | zero=>
          simp at hc hv'
          subst hc; subst hv'
          have hc:=hok c (ay ..)
          obtain ⟨b,ls⟩:=c
          exact CmR.cells k1 fun hb=>by
            subst hb
            obtain ⟨l,rfl,q1⟩:=k1
            simp only[Zc,cK] at hc
            obtain ⟨h3,h4⟩:=X3 hc
            exact q1.oneCell h4 h3 fun q ⟨e,he⟩=>(r.cx.en q e he).oneCell
        | succ i=>exact ih vs' k2 (fun c hc=>hok c (ax _ hc)) i c' v' (by simpa using hc) (by simpa using hv')
    have hzl:((parts.toList.map (·.1)).zip (css.map (·.2))).length=vs.length:=by rw[List.length_zip,aQ,aQ]; omega
    obtain ⟨cur',k1,k2⟩:=Jp (al:=s.tab.al) (gh:=gh) (w:=w) (cur:=zs.toArray) hf hzl.symm (fun i p v hp hv'=>by
      have hi:=List.getElem?_zip_eq_some.1 hp
      have h5:=hi.2
      rw[bo] at h5
      obtain ⟨c',h6,h7⟩:=cp.1 h5
      rw[← h7]
      exact hcells css vs hvs hok i c' v h6 hv') (by simpa using QiA s.tab.al gh w zs)
    refine ⟨.agg cur', ?_,cur'.toList,by simp,k2⟩
    have hz:(((parts.toList.map (·.1)).zip (css.map (·.2))).map (·.1)).zip vs=(parts.map fun p=>(p.1,a.eval p.2)).toList:=by
      rw[List.map_fst_zip (by rw[aQ,aQ]; omega),cO,← hV,cY]
      generalize parts.toList=pl
      induction pl with
      | nil=>rfl
      | cons p ps ih=>simp[ih]
    rw[hz] at k1
    simp only[execOp,Instr.build,au,Xw h3,aF,run_underlying h1,h2,Value.cells]
    rw[k1]
    simp
end
theorem Qk9 {A:Amb}{P:Program}{s:St}{fn:Func}(hr:fn.results= #[]):Res A P fn s (.tup []):=fun gh a w g=>by
  refine ⟨.tuple #[], ?_,[],rfl,rfl⟩
  rw[Wi,hr]; simp[Xz,da]
section
variable {A:Amb}{P:Program}{s:St}{x y z:Operand}{d:Nat}{T T' ty:TypeId}{pos:String}{af:Array Edge}{g:Option (Nat×Bool)}
variable {E:TypeId}{e:Ty}{xs:List e.Den}{q lo n:Nat}
theorem OwnL.takeW {w:World}(hf:e.flat=true):∀{xs:List e.Den} {fp:List Nat} {cs:List Value} (k:Nat),OwnL (Own e w) fp cs xs→OwnL (Own e w) [] (cs.take (k*e.wd)) (xs.take k)
  | [],_,_,k,h=>by rw[h.2]; simp[OwnL]
  | x :: xs,_,_,0,_=>by simp[OwnL]
  | x :: xs,_,_,k+1,⟨f1,f2,c1,c2,h1,h2,h3,h4⟩=>by
    have hl:=h3.len
    have hf1:=WG hf h3
    subst hf1
    rw[h2]
    refine ⟨[],[],c1,c2.take (k*e.wd),rfl, ?_,h3,OwnL.takeW hf k h4⟩
    rw[Nat.succ_mul,Nat.add_comm,← hl,List.take_length_add_append]
theorem Qbx (t i:Nat)(hi:lk s.tm i=some (lf (.sub q e.wd 0 n)))(he:s.tab.ent q=some (.arr E e xs))(hn:n≤xs.length)(hf:e.flat=true)(hfr:Fresh s t)(hk0:A.k0≤t):
    Wk A s ⟨(i,lf (.ref t)) :: s.tm,(t,some (.arr E e (xs.take n))) :: (q,none) :: s.tab⟩:=fun a w r=>by
  obtain ⟨gh,r⟩:=r
  obtain ⟨v,h1,l,h2,h3⟩:=r.tm i _ hi
  simp only[aH,and_true] at h2
  subst h2
  obtain ⟨B,m,c,q1,q2⟩:=h3 ⟨_,he⟩
  have hO:Own (.sl E e) w (gh.f q) [gh.h q] xs:=r.cx.en q _ he
  have hv:v= .slice B n c:=by
    rw[q2]
    congr 1
    split
    · rfl
    · cases B with
      | none=>rfl
      | some b=>cases b; simp[Addr.add]
  have hO':Own (.sl E e) w (gh.f q) [v] (xs.take n):=by
    rcases hO with ⟨k1,k2,k3⟩ | ⟨b,cap,cur,fps,p2,p3,p4,p5,p6,p7,p8⟩
    · subst k3
      simp only[aH,and_true] at k2
      rw[q1] at k2
      simp only[Value.slice.injEq] at k2
      obtain ⟨rfl,rfl,rfl⟩:=k2
      have:n=0:=by simpa using hn
      subst this
      exact .inl ⟨k1,by rw[hv],by simp⟩
    · have hfp := p8.fp0 hf
      subst hfp
      simp only[aH,and_true] at p3
      rw[q1] at p3
      simp only[Value.slice.injEq] at p3
      obtain ⟨rfl,rfl,rfl⟩:=p3
      have hl:(xs.take n).length=n:=by rw[ap]; omega
      refine .inr ⟨b,c,cur,[],p2,by rw[hv,hl],p4,by rw[hl]; omega,p6,p7, ?_⟩
      rw[hl]
      have:=p8.takeW hf n
      rwa [List.take_take,ck (bU _ hn)] at this
  have r2:=r.make t hfr hk0 [q] (fun q' h=>by rw[aC.1 h]; exact ⟨_,he⟩) (Zt w) (fun _ _ _=>rfl) hO' (r.cx.nd q ⟨_,he⟩) (fun g hg=> .inr ⟨q,aC.2 rfl,hg⟩)
  exact ⟨_,r2.know h1 (pv:=lf (.ref t)) ⟨_,rfl,fun _=>by simp⟩⟩
theorem Qas (z:Array Value)(n:Nat):Builtin.zeroCells z n=madeCells z (n*z.size):=rfl
theorem Hh {Tl E':TypeId}{zv:Value}(hx:Evl A s x (.sub q e.wd lo n))(he:s.tab.ent q=some (.arr E e xs))(hb:lo+n=xs.length)(hT:P.underlying Tl=some (.slice E'))(hz:zer P E'=some zv)(hzc:zv.cells.toList=e.zeros)(hzo:e.zeros.all (·.oneCell')=true)(hf:e.flat=true):
    Does A P ⟨none, .call ⟨.builtin .clear, #[x], #[Tl]⟩,ty,pos,af,g⟩ s ⟨s.tm,(q,some (.arr E e (xs.take lo++List.replicate n e.zero))) :: s.tab⟩:=fun a w K Q r hK=>by
  obtain ⟨gh,r⟩:=r
  have hO:Own (.sl E e) w (gh.f q) [gh.h q] xs:=r.cx.en q _ he
  have hO0:=hO
  obtain ⟨B,m,c,q1,q2⟩:=hx gh a w r ⟨_,he⟩
  have hzl:e.zeros.length=e.wd:=(ZB e w).len
  have hzs:zv.cells=e.zeros.toArray:=by rw[← hzc]
  rcases Nat.eq_zero_or_pos n with hn0 | hn0
  · subst hn0
    have hxs:xs.take lo++List.replicate 0 e.zero=xs:=by rw[b9 (by omega)]; simp
    have e0:(execOp a.eval ⟨none, .call ⟨.builtin .clear, #[x], #[Tl]⟩,ty,pos,af,g⟩).run P w= .ok (.value (.tuple #[])) w:=by
      simp only[execOp,resolve,invoke,builtin,q2,au,aX,aF,d7,aZ,cX]
      generalize (if c=lo then B else B.map (·.add (lo*e.wd)))=BB
      cases BB <;> simp[Builtin.clear_,run_underlying hT]
    unfold Oper.wp
    rw[e0,Oper.upon_value]
    refine hK _ _ ⟨gh,r.mod he (Zt w) (fun _ _ _=>rfl) ?_⟩
    rw[hxs]
    exact hO0
  · rcases hO with ⟨_, _, h⟩ | ⟨b, cap, cur, fps, p2, p3, p4, p5, p6, p7, p8⟩
    · subst h; simp at hb; omega
    have hfp:=p8.fp0 hf
    subst hfp
    simp only[aH,and_true] at p3
    rw[q1] at p3
    simp only[Value.slice.injEq] at p3
    obtain ⟨rfl,rfl,rfl⟩:=p3
    rw[if_neg (by omega)] at q2
    simp only[cR,Addr.add_lit,bI] at q2
    have hzz:(Builtin.zeroCells zv.cells n).toList=(List.replicate n e.zeros).flatten:=by
      have h2:=He e.zeros n (by rw[hzl]; exact X7 e)
      rw[Qas,hzs,List.size_toArray,h2]
    have hfl:((List.replicate n e.zeros).flatten).length=n*e.wd:=by simp[hzl]
    have hwd:=bU e.wd p5
    have hle:lo*e.wd+n*e.wd=xs.length*e.wd:=by rw[← hb,bw]
    have hst:=We (P:=P) (b:=b) (E:=E) ((List.replicate n e.zeros).flatten) (lo*e.wd) 0 w cur p4 (by rw[hfl,p7]; omega) (fun v hv=>by
      obtain ⟨l,hl,hv⟩:=List.mem_flatten.1 hv
      rw[cB hl] at hv
      exact aw.1 hzo v hv)
    rw[db] at hst
    have e0:(execOp a.eval ⟨none, .call ⟨.builtin .clear, #[x], #[Tl]⟩,ty,pos,af,g⟩).run P w= .ok (.value (.tuple #[])) (Xk w b (lo*e.wd) ((List.replicate n e.zeros).flatten)):=by
      obtain ⟨n,rfl⟩:∃k,n=k+1:=⟨n - 1,by omega⟩
      simp only[execOp,resolve,invoke,builtin,q2,au,aX,aF,d7,aZ,cX]
      simp[Builtin.clear_,run_underlying hT,Xw hz,hzz,hst]
    unfold Oper.wp
    rw[e0,Oper.upon_value]
    obtain ⟨cur',m1,m2,m3⟩:=Wo b E (0,0) ((List.replicate n e.zeros).flatten) w (lo*e.wd) cur p4 (by rw[hfl,p7]; omega)
    refine hK _ _ ⟨gh,r.mod he (WV w b _ _) (fun g0 _ hg0=>Yp w b _ _ g0 fun h=>hg0 (by rw[p2,h]; simp)) ?_⟩
    have hl:(xs.take lo++List.replicate n e.zero).length=xs.length:=by simp; omega
    refine .inr ⟨b,c,cur',[],p2,by rw[q1,hl],m1,by omega,p6,by rw[m2]; exact p7, ?_⟩
    rw[hl]
    have hlist:cur'.toList.take (xs.length*e.wd)=(cur.toList.take (xs.length*e.wd)).take (lo*e.wd)++(List.replicate n e.zeros).flatten:=by
      have h9:=Hf (l:=cur.toList) (len:=xs.length*e.wd) (lo:=lo*e.wd) (cs:=(List.replicate n e.zeros).flatten) (by rw[hfl]; omega) (by simp; omega)
      rw[m3,h9,hfl,bz (by simp; omega),bA]
    rw[hlist]
    have keep:∀{cs:List Value} {zs:List e.Den},OwnL (Own e w) [] cs zs→OwnL (Own e (Xk w b (lo*e.wd) ((List.replicate n e.zeros).flatten))) [] cs zs:=fun h=>h.mono fun f c x hf' ho=>ho.keep fun g hg=>absurd (hf' g hg) (by simp)
    exact (keep (p8.takeW hf lo)).append (OwnL.zeros e _ n)
end
end Go.Proofs.YtgpdhgadmjfokaaGreat
namespace Go.Proofs.YtgpdhgadmjfokaaGreat
open Go.RowKit
set_option maxRecDepth 100000
theorem QdZ {α:Type _}:∀{l:List (Nat×α)} {i:Nat} {x:α},lk l i=some x→(i,x)∈l
  | (j,y) :: l,i,x,h=>by
    rw[WJ] at h
    split at h
    · rename_i e; cases h; subst e; exact ay ..
    · exact ax _ (QdZ h)
noncomputable def tshT:List (Nat×Bool×Nat):=[(0,false,1),(2,false,1),(3,false,1),(4,false,1),(5,false,1),(6,false,1),(8,true,4),(9,false,1),(10,false,1),(11,false,1),(12,false,1),(14,true,2),(15,false,1),(16,false,1),(17,false,1),(19,true,1),(20,false,1),(22,false,1),(23,false,1),(24,false,1),(25,false,1),(27,true,3),(28,false,1),(30,false,1),(32,false,1),(33,false,1),(35,false,1),(38,false,1),(41,false,1),(44,true,2),(46,true,4),(47,false,1),(52,false,1),(53,false,1),(57,false,1),(59,true,2),(60,false,1),(62,true,5),(64,false,1),(65,false,1),(67,false,1),(68,false,1),(71,true,3),(72,false,1),(74,false,1),(76,false,1),(79,false,1),(86,true,2),(87,false,1),(90,false,1),(95,false,1),(103,false,1),(107,true,2),(108,false,1),(111,false,1),(113,false,1),(116,false,1),(117,false,1),(119,true,3),(123,false,1),(130,false,1),(134,false,1),(141,true,4),(143,true,7),(144,false,1),(146,false,1),(148,false,1),(154,false,1),(158,false,1),(160,true,2),(161,false,1),(171,false,1),(172,false,1),(190,false,1),(199,false,1),(200,false,1),(201,false,1),(203,true,9),(207,true,2),(208,false,1),(209,false,1),(215,false,1),(221,false,1),(228,false,1),(230,false,1),(231,false,1),(236,false,1),(238,false,1),(241,false,1),(245,true,2),(250,true,6),(255,false,1),(257,false,1),(263,true,3),(265,true,3),(266,false,1),(282,false,1),(285,false,1),(287,true,8),(295,true,2),(298,false,1),(299,false,1),(305,false,1),(314,false,1),(316,false,1),(334,false,1),(335,false,1),(337,false,1),(339,false,1),(341,true,7),(347,false,1),(349,true,3),(352,false,1),(354,true,4),(359,false,1),(366,false,1),(370,false,1),(375,false,1),(378,false,1),(381,false,1),(383,false,1),(386,true,3),(391,false,1),(393,false,1),(397,false,1),(398,false,1),(416,false,1)]
noncomputable def fldT:List (Nat×Nat):=[(512,0),(513,1),(514,2),(515,3),(896,0),(897,1),(1216,0),(1728,0),(1729,1),(1730,2),(2816,0),(2817,1),(2944,0),(2945,1),(2946,2),(2947,3),(3776,0),(3777,1),(3968,0),(3969,2),(3970,3),(3971,4),(4544,0),(4545,1),(4546,2),(5504,0),(5505,1),(6848,0),(6849,1),(7616,0),(7617,1),(7618,2),(9024,0),(9025,2),(9152,0),(9153,4),(10240,0),(10241,1),(12992,0),(12993,3),(12994,4),(12995,7),(12996,8),(13248,0),(13249,1),(15680,0),(15681,1),(16000,0),(16001,2),(16002,3),(16003,4),(16004,5),(16832,0),(16833,1),(16834,2),(16960,0),(16961,1),(16962,2),(18368,0),(18369,3),(18370,4),(18371,5),(18880,0),(18881,1),(21824,0),(21825,5),(21826,6),(22336,0),(22337,1),(22338,2),(22656,0),(22657,1),(22658,2),(22659,3),(24704,0),(24705,1),(24706,2)]
noncomputable def sliT:List (Nat×Nat):=[(22,5),(23,44),(24,9),(25,46),(32,3),(52,141),(57,245),(60,86),(64,71),(67,32),(90,4),(158,263),(201,207),(221,295),(231,143),(266,265),(337,386)]
theorem Qpe:(tshT.all fun p=>decide (tsh Tryz.prog p.1=some p.2))=true:=by kernel_rfl
theorem QpA:(fldT.all fun p=>decide (fld Tryz.prog (p.1 / 64) (p.1 % 64)=some p.2))=true:=by kernel_rfl
noncomputable def strT:List Nat:=[9,10,11]
noncomputable def strB (T:Nat):Bool:=match Tryz.prog.underlying T with
  | some .string=>true
  | _=>false
theorem Qpx:(strT.all strB)=true:=by kernel_rfl
theorem Qrd {T:TypeId}(h:inB T strT=true):Tryz.prog.underlying T=some .string:=by
  have h1:=aw.1 Qpx _ (QdV.1 h)
  unfold strB at h1
  split at h1
  · assumption
  · cases h1
noncomputable def sliB (T E:Nat):Bool:=match Tryz.prog.underlying T with
  | some (.slice E')=>Nat.beq E' E
  | _=>false
theorem Qoz:(sliT.all fun p=>sliB p.1 p.2)=true:=by kernel_rfl
theorem Vd {T:TypeId}{b:Bool}{n:Nat}(h:lk tshT T=some (b,n)):tsh Tryz.prog T=some (b,n):=ae (aw.1 Qpe _ (QdZ h))
theorem Qkg {T f o:Nat}(h:lk fldT (Nat.add (Nat.mul 64 T) f)=some o)(hf:Nat.blt f 64=true):fld Tryz.prog T f=some o:=by
  have h1:=ae (aw.1 QpA _ (QdZ h))
  have hf:=aI hf
  rwa [show Nat.add (Nat.mul 64 T) f=64*T+f from rfl,show (64*T+f) / 64=T by omega,show (64*T+f) % 64=f by omega] at h1
theorem Qd0 {T E:TypeId}(h:lk sliT T=some E):Tryz.prog.underlying T=some (.slice E):=by
  have h1:=aw.1 Qoz _ (QdZ h)
  unfold sliB at h1
  split at h1
  · rename_i h2; rw[h2,aW h1]
  · cases h1
section
variable {A:Amb}{s s':St}{o:Oper}
theorem xlI {d:Nat}{x:Operand}{T ty:TypeId}{pos:String}{af:Array Edge}{g:Option (Nat×Bool)}{q wd i j n:Nat}{E:TypeId}{e t:Ty}{xs:List e.Den}{z:e.Den}{y':t.Den}(hx:Evl A s x (.ept q wd i j))(he:s.tab.ent q=some (.arr E e xs))(hw:wd=e.wd)(hz:xs[i]? =some z)(hf:e.flat=true)(hT:tsh Tryz.prog T=some (false,n))(hl:(leaves e z)[j]? =some (.dat t y'))(hn:Nat.blt d A.n=true):Does A Tryz.prog ⟨some d, .load T x,ty,pos,af,g⟩ s (s.put d (lf (.dat t y'))):=by
  subst hw; exact Ya hx he hz hf hT hl hn
theorem Qss {d:Nat}{x:Operand}{T ty:TypeId}{pos:String}{af:Array Edge}{g:Option (Nat×Bool)}{q wd i j n:Nat}{E:TypeId}{e:Ty}{xs:List e.Den}{z:e.Den}(hx:Evl A s x (.ept q wd i j))(he:s.tab.ent q=some (.arr E e xs))(hw:wd=e.wd)(hz:xs[i]? =some z)(hf:e.flat=true)(hT:tsh Tryz.prog T=some (true,n))(hl:Nat.ble (j+n) e.wd=true)(hn:Nat.blt d A.n=true):Does A Tryz.prog ⟨some d, .load T x,ty,pos,af,g⟩ s (s.put d (ag (((leaves e z).drop j).take n))):=by
  subst hw; exact QeY hx he hz hf hT hl hn
theorem D_ (h:Does A Tryz.prog o s s':=by
    first
    | ((with_reducible apply KK); exact Qa rfl; rfl; exact Vd rfl; rfl; rfl)
    | ((with_reducible apply V0); exact Qa rfl; exact Qkg rfl rfl; rfl; rfl)
    | ((with_reducible apply Uz); rfl; rfl)
    | ((with_reducible apply WE); rfl; rfl)
    | ((with_reducible apply Jd); rfl; rfl; rfl)
    | ((with_reducible apply Ul); exact Qa rfl; rfl; exact Vd rfl; rfl; rfl)
    | ((with_reducible apply QaL); (first | exact Ql rfl | exact Zk | exact Evl.str rfl | exact Evl.val); rfl)
    | ((with_reducible apply Jg); (first | exact Ql rfl | exact Zk | exact Evl.str rfl | exact Evl.val); rfl)
    | ((with_reducible apply Qfj); (first | exact Qa rfl | exact Ql rfl); (first | exact Qa rfl | exact Ql rfl); rfl)
    | ((with_reducible apply Qe2); (first | exact Qa rfl | exact Ql rfl); (first | exact Qa rfl | exact Ql rfl); rfl)
    | ((with_reducible apply Qfd); (first | exact Qa rfl | exact Ql rfl); (first | exact Qa rfl | exact Ql rfl); rfl)
    | ((with_reducible apply QeJ); (first | exact Qa rfl | exact Ql rfl); (first | exact Qa rfl | exact Ql rfl); rfl)
    | ((with_reducible apply Qfg); (first | exact Qa rfl | exact Ql rfl); (first | exact Qa rfl | exact Ql rfl); rfl)
    | ((with_reducible apply QeP); (first | exact Qa rfl | exact Ql rfl); (first | exact Qa rfl | exact Ql rfl); rfl)
    | ((with_reducible apply Wu); (first | exact Qa rfl | exact Ql rfl); (first | exact Qa rfl | exact Ql rfl); rfl; omega)
    | ((with_reducible apply Wp); (first | exact Qa rfl | exact Ql rfl); (first | exact Qa rfl | exact Ql rfl); rfl; omega)
    | ((with_reducible apply Qft); exact Qa rfl; rfl)
    | ((with_reducible apply QaJ); exact Qa rfl; (first | exact Qm rfl | exact Evl.ev Zk | exact Evl.ev (Ql rfl)); rfl)
    | ((with_reducible apply Qav); exact Qa rfl; (first | exact Qm rfl | exact Evl.ev Zk | exact Evl.ev (Ql rfl)); rfl)
    | ((with_reducible apply QbW); exact Qa rfl; exact Vd rfl; rfl; rfl)
    | ((with_reducible apply Hc); exact Qa rfl; exact Vd rfl; rfl; rfl)
    | ((with_reducible apply Hb); exact Qa rfl; exact Qkg rfl rfl; rfl)
    | ((with_reducible apply Ym); exact Qa rfl; exact Qkg rfl rfl; rfl; rfl)
    | ((with_reducible apply JX); exact Qa rfl; rfl; rfl)
    | ((with_reducible apply QjN); exact Qa rfl; rfl; rfl)
    | ((with_reducible apply Qc6); exact Qa rfl; rfl; rfl; exact Qd0 rfl)
    | ((with_reducible apply Qev); exact Qa rfl; rfl; exact Qd0 rfl)
    | ((with_reducible apply UQ); (first | exact Qa rfl | exact Evl.str rfl); (first | exact Qa rfl | exact Evl.str rfl); rfl)
    | ((with_reducible apply QcB); (first | exact Qa rfl | exact Evl.str rfl); (first | exact Qa rfl | exact Evl.str rfl); rfl)
    | ((with_reducible apply ZA); exact Qa rfl; rfl; (first | exact Qm rfl | exact Evl.ev (Ql rfl) | exact Evl.ev Zk | exact Evl.ev (Evl.str rfl) | exact Evl.ev (QM _ rfl)); rfl; exact Vd rfl; rfl)
    | ((with_reducible apply Hg); exact Qa rfl; (first | exact Qa rfl | exact Ql rfl); exact Qd0 rfl; exact Vd rfl; rfl; omega; assumption)
    | ((with_reducible apply Hj); (first | exact Qa rfl | exact Evl.str rfl); (first | exact Qa rfl | exact Ql rfl); rfl; exact Qrd rfl; omega; assumption)
    | ((with_reducible apply ZK); exact Qa rfl; rfl; (first | exact Qa rfl | exact Ql rfl); exact Qd0 rfl; exact Vd rfl; rfl; omega; (first | omega | (simp only[aA]; omega)))
    | ((with_reducible apply xlI); exact Qa rfl; rfl; rfl; assumption; rfl; exact Vd rfl; rfl; rfl)
    | ((with_reducible apply Qss); exact Qa rfl; rfl; rfl; assumption; rfl; exact Vd rfl; rfl; rfl)
    | ((with_reducible apply Zz); exact Qa rfl; exact Qa rfl; rfl)
    | ((with_reducible apply QH); exact Qa rfl; exact Qa rfl; rfl)):Does A Tryz.prog o s s':=h
theorem xbx {T ty:TypeId}{d:Nat}{x:Operand}{pos:String}{af:Array Edge}{ops:Array Oper}{l:List Oper}{Q:Exit→St→Prop}(t:Nat){b:Bool}{ls:List LV}(k:AL A Tryz.prog ops l Q (s.new d t (.ptr t 0) (.box T ls)))(hx:Ev A s x (b,ls):=by first | exact Qm rfl | exact Evl.ev (Ql rfl) | exact Evl.ev Zk | exact Evl.ev (Evl.str rfl))(hk:Zc s.tab ls=true:=by rfl)(hn:Nat.blt d A.n=true:=by rfl)(hfr:Fresh s t:=by exact Fresh.of rfl)(hk0:A.k0≤t:=by exact nlr rfl):AL A Tryz.prog ops (⟨some d, .box T x,ty,pos,af,none⟩ :: l) Q s:=lc (Qmr t hx hk hn hfr hk0) k
theorem xal {T ty:TypeId}{d:Nat}{pos:String}{af:Array Edge}{g:Option (Nat×Bool)}(k:Nat)(t:Ty){z:Value}(hz:zer Tryz.prog T=some z)(hzt:z.cells.toList=t.zeros:=by rfl)(hn:Nat.blt d A.n=true:=by rfl)(hfr:Fresh s k:=by exact Fresh.of rfl)(hk0:A.k0≤k:=by exact nlr rfl):Does A Tryz.prog ⟨some d, .alloc T,ty,pos,af,g⟩ s (s.new d k (.ptr k 0) (.box T t.zlv)):=KA k t hz hzt hn hfr hk0
theorem e1_ {i:Nat}{b:Bool}{ls:List LV}(h:lk s.tm i=some (.cm b ls):=by rfl):EvL A s [.tmp i] [(b,ls)]:=⟨_,_,rfl,Qm h,rfl⟩
theorem e2_ {i j:Nat}{b c:Bool}{ls ms:List LV}(h:lk s.tm i=some (.cm b ls):=by rfl)(k:lk s.tm j=some (.cm c ms):=by rfl):EvL A s [.tmp i, .tmp j] [(b,ls),(c,ms)]:=⟨_,_,rfl,Qm h,_,_,rfl,Qm k,rfl⟩
theorem w_ {G G':Prop}(k:G')(h:G'→G:=by
    first
    | ((with_reducible apply lm); rfl; rfl)
    | ((with_reducible apply lgn); rfl; rfl; rfl)
    | ((with_reducible apply lc); exact D_)
    | ((with_reducible apply lgy); rfl; rfl; exact D_)
    | (with_reducible exact QmN)
    | (with_reducible exact QqM)
    | (with_reducible exact Zl)
    | ((with_reducible apply Ql4); exact Qa rfl)
    | ((with_reducible apply Qls); exact Qa rfl)
    | (with_reducible exact Ql3)
    | (with_reducible exact QlJ)
    | (with_reducible exact Qda)):G:=h k
end
def rlm:Nat→List Nat→List Nat
  | _,[]=>[]
  | b,r :: rs=>Nat.sub (Nat.sub b 1) r :: rlm (Nat.mul 2 b) rs
def QgS (l:List Oper)(plan:List Item)(deps:List (List Nat)):Bool:=Nat.beq l.length plan.length&&(QbU l.toArray deps plan.length&&Qa1 plan deps&&Je l.toArray plan.length)
def ActsH (A:Amb)(P:Program)(l0:List Oper)(plan:List Item)(deps:List (List Nat))(s0:St):List Oper→List Item→Nat→Prop
  | o :: l,it :: p,i=>(∀s,At plan deps s0 i s→Acts A P l0.toArray o s (KY s it))∧ActsH A P l0 plan deps s0 l p (i+1)
  | [],_,_=>QgS l0 plan deps=true
  | _ :: _,[],_=>QgS l0 plan deps=true
section
variable {A:Amb}{P:Program}{s s' s0:St}{Q:Exit→St→Prop}{l0 l:List Oper}{o:Oper}{it:Item}{p plan:List Item}{deps:List (List Nat)}{i:Nat}
theorem ActsH.to:∀{l:List Oper} {p:List Item} {i:Nat},ActsH A P l0 plan deps s0 l p i→ActsL A P l0.toArray plan deps s0 l p i∧QgS l0 plan deps=true
  | _ :: _,_ :: _,_,h=>⟨⟨h.1,(ActsH.to h.2).1⟩,(ActsH.to h.2).2⟩
  | [],_,_,h=>⟨trivial,h⟩
  | _ :: _,[],_,h=>⟨trivial,h⟩
theorem Qqi {q:Nat}(hs:At plan deps s0 i s)(h:(se plan deps s0 i q).isSome=true):(s.tab.ent q).isSome=true:=by
  obtain ⟨x,hx⟩:=b7.1 h
  rw[hs.n _ hx]; rfl
theorem DH_ (h:Does A Tryz.prog o s s':=by
    first
    | ((with_reducible apply QaJ); exact At.v ‹_› rfl; (first | exact At.w ‹_› rfl | exact Evl.ev Zk | exact Evl.ev (Ql rfl)); rfl)
    | ((with_reducible apply Qav); exact At.v ‹_› rfl; (first | exact At.w ‹_› rfl | exact Evl.ev Zk | exact Evl.ev (Ql rfl)); rfl)
    | ((with_reducible apply KK); exact At.v ‹_› rfl; exact At.n ‹_› _ rfl; exact Vd rfl; rfl; rfl)
    | ((with_reducible apply Ul); exact At.v ‹_› rfl; exact At.n ‹_› _ rfl; exact Vd rfl; rfl; rfl)
    | ((with_reducible apply Uz); exact At.k ‹_› rfl; rfl)
    | ((with_reducible apply WE); exact At.k ‹_› rfl; rfl)
    | ((with_reducible apply Jd); exact At.k ‹_› rfl; rfl; rfl)
    | ((with_reducible apply QaL); (first | exact Ql rfl | exact Zk | exact Evl.str rfl | exact Evl.val); rfl)
    | ((with_reducible apply Jg); (first | exact Ql rfl | exact Zk | exact Evl.str rfl | exact Evl.val); rfl)
    | ((with_reducible apply QbW); exact At.v ‹_› rfl; exact Vd rfl; rfl; rfl)
    | ((with_reducible apply Hc); exact At.v ‹_› rfl; exact Vd rfl; rfl; rfl)
    | ((with_reducible apply Hb); exact At.v ‹_› rfl; exact Qkg rfl rfl; rfl)
    | ((with_reducible apply Qev); exact At.v ‹_› rfl; rfl; exact Qd0 rfl)
    | ((with_reducible apply Qc6); exact At.v ‹_› rfl; exact At.n ‹_› _ rfl; rfl; exact Qd0 rfl)
    | ((with_reducible apply Qfj); (first | exact At.v ‹_› rfl | exact Ql rfl); (first | exact At.v ‹_› rfl | exact Ql rfl); rfl)
    | ((with_reducible apply Qe2); (first | exact At.v ‹_› rfl | exact Ql rfl); (first | exact At.v ‹_› rfl | exact Ql rfl); rfl)
    | ((with_reducible apply Qfd); (first | exact At.v ‹_› rfl | exact Ql rfl); (first | exact At.v ‹_› rfl | exact Ql rfl); rfl)
    | ((with_reducible apply QeJ); (first | exact At.v ‹_› rfl | exact Ql rfl); (first | exact At.v ‹_› rfl | exact Ql rfl); rfl)
    | ((with_reducible apply Qfg); (first | exact At.v ‹_› rfl | exact Ql rfl); (first | exact At.v ‹_› rfl | exact Ql rfl); rfl)
    | ((with_reducible apply QeP); (first | exact At.v ‹_› rfl | exact Ql rfl); (first | exact At.v ‹_› rfl | exact Ql rfl); rfl)
    | ((with_reducible apply Wu); (first | exact At.v ‹_› rfl | exact Ql rfl); (first | exact At.v ‹_› rfl | exact Ql rfl); rfl; omega)
    | ((with_reducible apply Wp); (first | exact At.v ‹_› rfl | exact Ql rfl); (first | exact At.v ‹_› rfl | exact Ql rfl); rfl; omega)
    | ((with_reducible apply Qft); exact At.v ‹_› rfl; rfl)
    | ((with_reducible apply UQ); (first | exact At.v ‹_› rfl | exact Evl.str rfl); (first | exact At.v ‹_› rfl | exact Evl.str rfl); rfl)
    | ((with_reducible apply QcB); (first | exact At.v ‹_› rfl | exact Evl.str rfl); (first | exact At.v ‹_› rfl | exact Evl.str rfl); rfl)
    | ((with_reducible apply Zz); exact At.v ‹_› rfl; exact At.v ‹_› rfl; rfl)
    | ((with_reducible apply QH); exact At.v ‹_› rfl; exact At.v ‹_› rfl; rfl)
    | ((with_reducible apply V0); exact At.v ‹_› rfl; exact Qkg rfl rfl; exact Qqi ‹_› rfl; rfl)
    | ((with_reducible apply JX); exact At.v ‹_› rfl; exact Qqi ‹_› rfl; rfl)
    | ((with_reducible apply Hj); (first | exact At.v ‹_› rfl | exact Evl.str rfl); (first | exact At.v ‹_› rfl | exact Ql rfl); rfl; exact Qrd rfl; omega; assumption)
    | ((with_reducible apply Hg); exact At.v ‹_› rfl; (first | exact At.v ‹_› rfl | exact Ql rfl); exact Qd0 rfl; exact Vd rfl; rfl; omega; assumption)
    | ((with_reducible apply ZA); exact At.v ‹_› rfl; exact At.n ‹_› _ rfl; (first | exact At.w ‹_› rfl | exact Evl.ev (Ql rfl) | exact Evl.ev Zk); rfl; exact Vd rfl; rfl)):Does A Tryz.prog o s s':=h
theorem zz (h:∀s,At plan deps s0 i s→Acts A P l0.toArray o s (KY s it))(k:ActsH A P l0 plan deps s0 l p (i+1)):ActsH A P l0 plan deps s0 (o :: l) (it :: p) i:=⟨h,k⟩
theorem z_ (k:ActsH A Tryz.prog l0 plan deps s0 l p (i+1))(h:∀s,At plan deps s0 i s→Acts A Tryz.prog l0.toArray o s (KY s it):=by
    first
    | ((with_reducible apply dxm); rfl; rfl)
    | ((with_reducible apply dxf); exact Qkg rfl rfl; rfl; rfl; rfl)
    | ((with_reducible apply dxl); exact Vd rfl; rfl; rfl; rfl; rfl; rfl)
    | ((with_reducible apply dxt); rfl; rfl)
    | ((with_reducible apply dxn); rfl; rfl; rfl)
    | ((with_reducible apply dxa); exact Vd rfl; rfl; rfl; rfl; rfl)
    | ((with_reducible apply dxo); rfl; rfl; rfl)
    | (intro _ _; (apply ac); exact DH_; rfl)
    | (intro _ _; (apply day); rfl; exact At.k ‹_› rfl; exact DH_; rfl)
    | (intro _ _; (apply Qnm); rfl; rfl; exact At.k ‹_› rfl; rfl; rfl)):ActsH A Tryz.prog l0 plan deps s0 (o :: l) (it :: p) i:=⟨h,k⟩
theorem zN (h:QgS l0 plan deps=true:=by kernel_rfl):ActsH A Tryz.prog l0 plan deps s0 [] [] i:=h
theorem dW {id:Nat}{y:Code}(plan:List Item)(ms:List Nat)(H:ActsH A Tryz.prog l plan (dms (rlm 1 ms)) s0 l plan 0)(k:AC A Tryz.prog y Q (stD plan s0 fun _=>true)):AC A Tryz.prog (.seq (.region id l.toArray true) y) Q s0:=by
  obtain ⟨h1,h2⟩:=H.to
  rw[QgS,aN] at h2
  exact dw plan _ mixed (aW h2.1) h2.2 h1 k
theorem dV {id:Nat}(plan:List Item)(ms:List Nat)(H:ActsH A Tryz.prog l plan (dms (rlm 1 ms)) s0 l plan 0)(k:Q .normal (stD plan s0 fun _=>true)):AC A Tryz.prog (.region id l.toArray true) Q s0:=by
  obtain ⟨h1,h2⟩:=H.to
  rw[QgS,aN] at h2
  exact dv plan _ mixed (aW h2.1) h2.2 h1 k
theorem dZ {id:Nat}{y:Code}{Q':Exit→St→Prop}(plan:List Item)(ms:List Nat)(H:ActsH A Tryz.prog l plan (dms (rlm 1 ms)) s0 l plan 0)(k:AC A Tryz.prog y Q' (stD plan s0 fun _=>true)):AC A Tryz.prog (.region id l.toArray true) (Ke (AC A Tryz.prog y Q') Q) s0:=by
  obtain ⟨h1,h2⟩:=H.to
  rw[QgS,aN] at h2
  exact dz plan _ mixed (aW h2.1) h2.2 h1 k
end
section
variable {A:Amb}{s:St}{f:FuncId}{xs:List Operand}{tys:Array TypeId}{args:List (Bool×List LV)}{d k:Nat}{ty T:TypeId}{pos:String}{af:Array Edge}{g:Option (Nat×Bool)}{pv:PV}{U U':Tab}{x y:Operand}
theorem evN:EvL A s [] []:=rfl
theorem evC {c:Bool×List LV}{cs:List (Bool×List LV)}(h:Ev A s x c)(k:EvL A s xs cs):EvL A s (x :: xs) (c :: cs):=⟨_,_,rfl,h,k⟩
theorem ebN:EvLB A s [] []:=rfl
theorem ebC {c:Bool×List LV}{cs:List (Bool×List LV)}(h:EvB A s x c)(k:EvLB A s xs cs):EvLB A s (x :: xs) (c :: cs):=⟨_,_,rfl,h,k⟩
theorem abN {e:Ty}:AbsL U e [] [] []:=⟨rfl,rfl⟩
theorem abC {e:Ty}{c:Bool×List LV}{cs:List (Bool×List LV)}{z:e.Den}{zs:List e.Den}{u1 u2:List Nat}(h:Abs U e c.2 z u1)(k:AbsL U e cs zs u2):AbsL U e (c :: cs) (z :: zs) (u1++u2):=⟨_,_,_,_,rfl,h,k,rfl⟩
theorem dK (hc:FC Tryz.prog f args [] 0 (QV pv))(hE:Qg Tryz.prog f)(ha:EvL A s xs args:=by repeat' first | exact evN | exact Qm rfl | exact At.w ‹_› rfl | exact Evl.ev (Ql rfl) | exact Evl.ev Zk | exact Evl.ev (Evl.str rfl) | apply evC)(ht:pv.tags=[]:=by rfl)(hn:Nat.blt d A.n=true:=by rfl):Does A Tryz.prog ⟨some d, .call ⟨.value (.func f),xs.toArray,tys⟩,ty,pos,af,g⟩ s (s.put d pv):=UO hc hE ha ht hn
theorem dB_ (hc:FC Tryz.prog f args [] 0 (QV pv))(hE:Qg Tryz.prog f)(ha:EvLB A s xs args:=by repeat' first | exact ebN | exact Ev.b (Qm rfl) | exact Ev.b (At.w ‹_› rfl) | exact Ev.b (Evl.ev (Ql rfl)) | exact Ev.b (Evl.ev Zk) | exact Ev.b (Evl.ev (Evl.str rfl)) | exact Qdi (Qa rfl) rfl | exact Qdi (At.v ‹_› rfl) (At.n ‹_› _ rfl) | apply ebC)(ht:pv.tags=[]:=by rfl)(hf:pv.fl=true:=by rfl)(hn:Nat.blt d A.n=true:=by rfl):Does A Tryz.prog ⟨some d, .call ⟨.value (.func f),xs.toArray,tys⟩,ty,pos,af,g⟩ s (s.put d pv):=VJ hc hE ha ht hf hn
theorem dO (t:Nat){E:TypeId}{e:Ty}{zs:List e.Den}(hc:FC Tryz.prog f args [] 0 (Wy E e zs))(hE:Qg Tryz.prog f)(ha:EvL A s xs args:=by repeat' first | exact evN | exact Qm rfl | exact At.w ‹_› rfl | exact Evl.ev (Ql rfl) | exact Evl.ev Zk | exact Evl.ev (Evl.str rfl) | apply evC)(hn:Nat.blt d A.n=true:=by rfl)(hfr:Fresh s t:=by first | exact Fresh.of rfl | exact At.fr ‹_› _ rfl)(hk0:A.k0≤t:=by exact nlr rfl):Does A Tryz.prog ⟨some d, .call ⟨.value (.func f),xs.toArray,tys⟩,ty,pos,af,g⟩ s (s.mk_ d t [] E e zs):=QgO t hc hE ha hn hfr hk0
theorem dOB (t:Nat){E:TypeId}{e:Ty}{zs:List e.Den}(hc:FC Tryz.prog f args [] 0 (Wy E e zs))(hE:Qg Tryz.prog f)(ha:EvLB A s xs args:=by repeat' first | exact ebN | exact Ev.b (Qm rfl) | exact Ev.b (At.w ‹_› rfl) | exact Ev.b (Evl.ev (Ql rfl)) | exact Ev.b (Evl.ev Zk) | exact Ev.b (Evl.ev (Evl.str rfl)) | exact Qdi (Qa rfl) rfl | exact Qdi (At.v ‹_› rfl) (At.n ‹_› _ rfl) | apply ebC)(hn:Nat.blt d A.n=true:=by rfl)(hfr:Fresh s t:=by first | exact Fresh.of rfl | exact At.fr ‹_› _ rfl)(hk0:A.k0≤t:=by exact nlr rfl):Does A Tryz.prog ⟨some d, .call ⟨.value (.func f),xs.toArray,tys⟩,ty,pos,af,g⟩ s (s.mk_ d t [] E e zs):=Hk t hc hE ha hn hfr hk0
theorem dG (n:Nat)(hc:FC Tryz.prog f args [] 0 (Is pv U))(hE:Qg Tryz.prog f)(ha:EvL A s xs args:=by repeat' first | exact evN | exact Qm rfl | exact At.w ‹_› rfl | exact Evl.ev (Ql rfl) | exact Evl.ev Zk | exact Evl.ev (Evl.str rfl) | apply evC)(hcl:Ye pv U=true:=by rfl)(hn:Nat.blt d A.n=true:=by rfl)(hfr:FrL s n (Zw U):=by repeat' first | exact trivial | exact Fresh.of rfl | exact At.fr ‹_› _ rfl | apply And.intro)(hk0:A.k0≤n:=by exact nlr rfl):Does A Tryz.prog ⟨some d, .call ⟨.value (.func f),xs.toArray,tys⟩,ty,pos,af,g⟩ s (s.back d n pv U):=Qhd n hc hE ha hcl hn hfr hk0
theorem dP (n:Nat)(ρ:List (Nat×Nat))(hc:FC Tryz.prog f args U k (Is pv U'))(hE:Qg Tryz.prog f)(ha:EvL A s xs (args.map fun c=>(c.1,c.2.map (LV.ren (rn ρ)))):=by repeat' first | exact evN | exact Qm rfl | exact At.w ‹_› rfl | exact Evl.ev (Ql rfl) | exact Evl.ev Zk | exact Evl.ev (Evl.str rfl) | apply evC)(hT:HasE s ρ U:=by repeat' first | exact rfl | exact trivial | exact At.n ‹_› _ rfl | apply And.intro)(hB:(XW (U.map fun p=>rn ρ p.1)&&Ye pv U'&&XW (U'.map fun p=>sg ρ k n p.1)&&Qfl U U' k&&Nat.blt d A.n)=true:=by rfl)(hfr:FrK s n k (Zw U'):=by repeat' first | exact trivial | exact Fresh.of rfl | exact At.fr ‹_› _ rfl | apply And.intro)(hk0:A.k0≤n:=by exact nlr rfl):Does A Tryz.prog ⟨some d, .call ⟨.value (.func f),xs.toArray,tys⟩,ty,pos,af,g⟩ s (s.backP d (sg ρ k n) (U.map fun p=>rn ρ p.1) pv U'):=Qg9 n ρ hc hE ha hT hB hfr hk0
theorem dA {q q2:Nat}{E:TypeId}{e:Ty}{us ys:List e.Den}(t:Nat)(hE:Vj Tryz.prog E e.wd=true)(hx:Evl A s x (.ref q):=by first | exact Qa rfl | exact At.v ‹_› rfl)(he:s.tab.ent q=some (.arr E e us):=by first | exact rfl | exact At.n ‹_› _ rfl)(hy:Evl A s y (.ref q2):=by first | exact Qa rfl | exact At.v ‹_› rfl)(he2:s.tab.ent q2=some (.arr E e ys):=by first | exact rfl | exact At.n ‹_› _ rfl)(hne:Nat.beq q q2=false:=by rfl)(hT:Tryz.prog.underlying T=some (.slice E):=by exact Qd0 rfl)(hb:us.length+ys.length≤1073741824:=by first | omega | (simp only[ak,aQ,ap,aq,aE]; omega) | (simp only[ak,bh,ap,aq,aE]; omega))(hn:Nat.blt d A.n=true:=by rfl)(hfr:Fresh s t:=by first | exact Fresh.of rfl | exact At.fr ‹_› _ rfl)(hk0:A.k0≤t:=by exact nlr rfl):Does A Tryz.prog ⟨some d, .call {callee:= .builtin .append,args:= #[x,y],argTypes:= #[T,T]},ty,pos,af,g⟩ s (s.mk_ d t [q,q2] E e (us++ys)):=QeH t hx he hy he2 hne hT hE hb hn hfr hk0
theorem dBs (t:Nat){E:TypeId}{e:Ty}{n:Nat}{parts:Array (Nat×Operand)}{css:List (Bool×List LV)}{us:List e.Den}{used:List Nat}{bb:Bool}{z:Value}(hz:zer Tryz.prog E=some z)(hT:Tryz.prog.underlying T=some (.slice E):=by exact Qd0 rfl)(hE:tsh Tryz.prog E=some (bb,e.wd):=by exact Vd rfl)(hpn:parts.toList.map (·.1)=List.range n:=by rfl)(hv:EvL A s (parts.toList.map (·.2)) css:=by repeat' first | exact evN | exact Qm rfl | exact At.w ‹_› rfl | exact Evl.ev (Ql rfl) | exact Evl.ev Zk | exact Evl.ev (Evl.str rfl) | apply evC)(hok:∀c∈css,Zc s.tab c.2=true:=by exact aw.1 rfl)(hab:AbsL s.tab e css us used:=by repeat' first | exact abN | exact ⟨rfl,rfl⟩ | apply abC)(hun:used.Nodup:=by decide)(hsz:Nat.ble (n*e.wd) 16777216=true:=by rfl)(hn:Nat.blt d A.n=true:=by rfl)(hfr:Fresh s t:=by first | exact Fresh.of rfl | exact At.fr ‹_› _ rfl)(hk0:A.k0≤t:=by exact nlr rfl):Does A Tryz.prog ⟨some d, .buildSlice T n parts,ty,pos,af,g⟩ s (s.mk_ d t used E e us):=XX t hT hE hz hpn hv hok hab hun hsz hn hfr hk0
end
section
variable {A:Amb}{s s1:St}{Q:Exit→St→Prop}{ops:Array Oper}{l:List Oper}{c x y:Code}{fn:Func}{k:Nat}{O O':PV→Tab→Prop}{pv pv0:PV}{T:Tab}
theorem alL (t:Nat){E:TypeId}{e:Ty}{u:List e.Den}(k:u.length≤9223372036854775807→AL A Tryz.prog ops l Q s)(h:Evl A s (.tmp t) (.dat (.sl E e) u):=by exact Qa rfl):AL A Tryz.prog ops l Q s:=AL.fact (Ql8 h) k
theorem alS (t:Nat){u:ByteArray}(k:u.size≤9223372036854775807→AL A Tryz.prog ops l Q s)(h:Evl A s (.tmp t) (dS u):=by exact Qa rfl):AL A Tryz.prog ops l Q s:=AL.fact (QjR h) k
theorem alI (t:Nat){n:Int}(k: -9223372036854775808≤n∧n≤9223372036854775807→AL A Tryz.prog ops l Q s)(h:Evl A s (.tmp t) (dI n):=by exact Qa rfl):AL A Tryz.prog ops l Q s:=AL.fact (Qe6 h) k
theorem acI (t:Nat){n:Int}(k: -9223372036854775808≤n∧n≤9223372036854775807→AC A Tryz.prog c Q s)(h:Evl A s (.tmp t) (dI n):=by exact Qa rfl):AC A Tryz.prog c Q s:=AC.fact (Qe6 h) k
theorem acG (t i:Nat){ls:List LV}{n:Int}(k: -9223372036854775808≤n∧n≤9223372036854775807→AC A Tryz.prog c Q s)(h:Ev A s (.tmp t) (true,ls):=by exact Qm rfl)(hi:ls[i]? =some (dI n):=by rfl):AC A Tryz.prog c Q s:=AC.fact (Qnp h hi) k
theorem cd_ {z:Operand}{p:Prop}{hd:Decidable p}(hf: @decide p hd=false→¬p→AC A Tryz.prog y Q s)(ht: @decide p hd=true→p→AC A Tryz.prog x Q s)(hc:Evl A s z (dB (@decide p hd)):=by exact Qa rfl):AC A Tryz.prog (.cond z x y) Q s:=UA hc (fun h=>ht h (ae h)) fun h=>hf h (ab h)
theorem cn_ {z:Operand}{p:Prop}{hd:Decidable p}(hf:(!@decide p hd)=false→p→AC A Tryz.prog y Q s)(ht:(!@decide p hd)=true→¬p→AC A Tryz.prog x Q s)(hc:Evl A s z (dB (!@decide p hd)):=by exact Qa rfl):AC A Tryz.prog (.cond z x y) Q s:=UA hc (fun h=>ht h (QP h)) fun h=>hf h (QA h)
theorem cb_ {z:Operand}{b:Bool}(hf:b=false→AC A Tryz.prog y Q s)(ht:b=true→AC A Tryz.prog x Q s)(hc:Evl A s z (dB b):=by exact Qa rfl):AC A Tryz.prog (.cond z x y) Q s:=UA hc ht hf
theorem cx_ {z:Operand}{b:Bool}(hf:b=false→AC A Tryz.prog x Q s)(ht:b=true→AC A Tryz.prog y Q s)(hc:Evl A s z (dB (!b)):=by exact Qa rfl):AC A Tryz.prog (.cond z x y) Q s:=UA hc (fun h=>hf (by simpa using h)) fun h=>ht (by simpa using h)
theorem rs_ {r:ResultVar}{d:Bool×List LV}(h:Rs A Tryz.prog s r d:=by first | exact Zh rfl | exact QE rfl rfl (Vd rfl) rfl | exact Qmw rfl rfl (Vd rfl)):Rs A Tryz.prog s r d:=h
theorem re_ (h:Res A Tryz.prog fn s pv:=by first | exact Res.one rfl rs_ | exact Yn rfl rs_ rs_ | exact X8 rfl rs_ rs_ rs_ | exact QlO rfl rs_ rs_ rs_ rs_ | exact Qk9 rfl):Res A Tryz.prog fn s pv:=h
theorem fe_ (hO:O=QV pv)(h:Res A Tryz.prog fn s pv:=by exact re_)(ht:pv.tags=[]:=by rfl):fin A Tryz.prog fn (KE O k) .ret s:=by subst hO; exact Vg h rfl ht
theorem fqI {u v:Int}(hO:O=QV (lf (dI v)))(e:u=v)(h:Res A Tryz.prog fn s (lf (dI u)):=by exact re_):fin A Tryz.prog fn (KE O k) .ret s:=by subst hO; subst e; exact Vg h rfl rfl
theorem fqB {u v:Bool}(hO:O=QV (lf (dB v)))(e:u=v)(h:Res A Tryz.prog fn s (lf (dB u)):=by exact re_):fin A Tryz.prog fn (KE O k) .ret s:=by subst hO; subst e; exact Vg h rfl rfl
theorem fqS {u v:ByteArray}(hO:O=QV (lf (dS v)))(e:u=v)(h:Res A Tryz.prog fn s (lf (dS u)):=by exact re_):fin A Tryz.prog fn (KE O k) .ret s:=by subst hO; subst e; exact Vg h rfl rfl
theorem fq_ {t:Ty}{u v:t.Den}(hO:O=QV (lf (.dat t v)))(e:u=v)(h:Res A Tryz.prog fn s (lf (.dat t u)):=by exact re_):fin A Tryz.prog fn (KE O k) .ret s:=by subst hO; subst e; exact Vg h rfl rfl
theorem fr_ (hO:O=QV pv)(h:Res A Tryz.prog fn s pv0:=by exact re_)(e:pv0=pv)(ht:pv.tags=[]:=by rfl):fin A Tryz.prog fn (KE O k) .ret s:=by subst hO; exact Vg h e ht
theorem fo_ {q:Nat}{E:TypeId}{e:Ty}{u v:List e.Den}(hO:O=Wy E e v)(hx:u=v)(h:Res A Tryz.prog fn s (lf (.ref q)):=by exact re_)(he:s.tab.ent q=some (.arr E e u):=by rfl):fin A Tryz.prog fn (KE O 0) .ret s:=by subst hO; exact QnE h he hx
theorem fi_ (ρ:List (Nat×Nat))(hO:O=Is pv T)(h2:HasE ⟨[],s.tab⟩ ρ T)(h1:Res A Tryz.prog fn s pv0:=by exact re_)(h0:pv0=pv.ren (rn ρ):=by rfl)(h3:XW (T.map fun x=>rn ρ x.1)=true:=by rfl)(h4:idB ρ k=true:=by rfl):fin A Tryz.prog fn (KE O k) .ret s:=by subst hO; exact Qpr pv T ρ h1 h0 h2 h3 h4
theorem lp0 (n:Nat)(F:Nat→St)(k0:Wk A s (F 0))(round:∀k,k≤n→AC A Tryz.prog c (Ke (fun s1=>k+1≤n∧Wk A s1 (F (k+1))) Q) (F k)):AC A Tryz.prog (.loop c) Q s:=
  QF (fun m s=>∃k,k≤n∧m=n - k∧s=F k) ⟨0,aT _,rfl,rfl⟩ k0 (by
    rintro m s ⟨k,hk,rfl,rfl⟩
    refine (round k hk).mono fun e s h=> ?_
    cases e <;> first | exact h | exact ⟨n - (k+1),_,by have:=h.1; omega,h.2,k+1,h.1,rfl,rfl⟩)
theorem lpK (n:Nat)(J:Nat→Prop)(F:Nat→St)(j0:J 0)(k0:Wk A s (F 0))(round:∀k,k≤n→J k→AC A Tryz.prog c (Ke (fun s1=>k+1≤n∧J (k+1)∧Wk A s1 (F (k+1))) Q) (F k)):AC A Tryz.prog (.loop c) Q s:=
  QF (fun m s=>∃k,k≤n∧m=n - k∧J k∧s=F k) ⟨0,aT _,rfl,j0,rfl⟩ k0 (by
    rintro m s ⟨k,hk,rfl,hj,rfl⟩
    refine (round k hk hj).mono fun e s h=> ?_
    cases e <;> first | exact h | exact ⟨n - (k+1),_,by have:=h.1; omega,h.2.2,k+1,h.1,rfl,h.2.1,rfl⟩)
theorem l0_ {n:Nat}{a:St}(w:Wk A s1 a)(h:k+1≤n:=by omega):k+1≤n∧Wk A s1 a:=⟨h,w⟩
theorem lK_ {n:Nat}{J:Prop}{a:St}(j:J)(w:Wk A s1 a)(h:k+1≤n:=by omega):k+1≤n∧J∧Wk A s1 a:=⟨h,j,w⟩
end
@[reducible] def bx (q E:Nat) (cs:List LV):Nat×Option Ent:=(q,some (.box E cs))
@[reducible] def ar (q E:Nat) (e:Ty) (xs:List e.Den):Nat×Option Ent:=(q,some (.arr E e xs))
theorem w2 {G G':Prop}(k:G')(h:G'→G:=by intro k_; iterate 2 refine w_ ?_; exact k_):G:=h k
theorem z2 {G G':Prop}(k:G')(h:G'→G:=by intro k_; iterate 2 refine z_ ?_; exact k_):G:=h k
theorem y2 {G:Prop}(h:G:=by iterate 2 refine z_ ?_; exact zN):G:=h
theorem w3 {G G':Prop}(k:G')(h:G'→G:=by intro k_; iterate 3 refine w_ ?_; exact k_):G:=h k
theorem z3 {G G':Prop}(k:G')(h:G'→G:=by intro k_; iterate 3 refine z_ ?_; exact k_):G:=h k
theorem y3 {G:Prop}(h:G:=by iterate 3 refine z_ ?_; exact zN):G:=h
theorem z4 {G G':Prop}(k:G')(h:G'→G:=by intro k_; iterate 4 refine z_ ?_; exact k_):G:=h k
theorem z5 {G G':Prop}(k:G')(h:G'→G:=by intro k_; iterate 5 refine z_ ?_; exact k_):G:=h k
theorem z9 {G G':Prop}(k:G')(h:G'→G:=by intro k_; iterate 9 refine z_ ?_; exact k_):G:=h k
theorem y1 {G:Prop}(h:G:=by refine z_ ?_; exact zN):G:=h
@[reducible] def i2 (d:Nat) (a0 a1:PV) (l:List Item):List Item:=io (d) a0 :: io (Nat.succ (d)) a1 :: l
@[reducible] def i3 (d:Nat) (a0 a1 a2:PV) (l:List Item):List Item:=io (d) a0 :: io (Nat.succ (d)) a1 :: io (Nat.succ (Nat.succ (d))) a2 :: l
@[reducible] def i4 (d:Nat) (a0 a1 a2 a3:PV) (l:List Item):List Item:=io (d) a0 :: io (Nat.succ (d)) a1 :: io (Nat.succ (Nat.succ (d))) a2 :: io (Nat.succ (Nat.succ (Nat.succ (d)))) a3 :: l
@[reducible] def i5 (d:Nat) (a0 a1 a2 a3 a4:PV) (l:List Item):List Item:=io (d) a0 :: io (Nat.succ (d)) a1 :: io (Nat.succ (Nat.succ (d))) a2 :: io (Nat.succ (Nat.succ (Nat.succ (d)))) a3 :: io (Nat.succ (Nat.succ (Nat.succ (Nat.succ (d))))) a4 :: l
@[reducible] def i6 (d:Nat) (a0 a1 a2 a3 a4 a5:PV) (l:List Item):List Item:=io (d) a0 :: io (Nat.succ (d)) a1 :: io (Nat.succ (Nat.succ (d))) a2 :: io (Nat.succ (Nat.succ (Nat.succ (d)))) a3 :: io (Nat.succ (Nat.succ (Nat.succ (Nat.succ (d))))) a4 :: io (Nat.succ (Nat.succ (Nat.succ (Nat.succ (Nat.succ (d)))))) a5 :: l
@[reducible] def i7 (d:Nat) (a0 a1 a2 a3 a4 a5 a6:PV) (l:List Item):List Item:=io (d) a0 :: io (Nat.succ (d)) a1 :: io (Nat.succ (Nat.succ (d))) a2 :: io (Nat.succ (Nat.succ (Nat.succ (d)))) a3 :: io (Nat.succ (Nat.succ (Nat.succ (Nat.succ (d))))) a4 :: io (Nat.succ (Nat.succ (Nat.succ (Nat.succ (Nat.succ (d)))))) a5 :: io (Nat.succ (Nat.succ (Nat.succ (Nat.succ (Nat.succ (Nat.succ (d))))))) a6 :: l
@[reducible] def i8 (d:Nat) (a0 a1 a2 a3 a4 a5 a6 a7:PV) (l:List Item):List Item:=io (d) a0 :: io (Nat.succ (d)) a1 :: io (Nat.succ (Nat.succ (d))) a2 :: io (Nat.succ (Nat.succ (Nat.succ (d)))) a3 :: io (Nat.succ (Nat.succ (Nat.succ (Nat.succ (d))))) a4 :: io (Nat.succ (Nat.succ (Nat.succ (Nat.succ (Nat.succ (d)))))) a5 :: io (Nat.succ (Nat.succ (Nat.succ (Nat.succ (Nat.succ (Nat.succ (d))))))) a6 :: io (Nat.succ (Nat.succ (Nat.succ (Nat.succ (Nat.succ (Nat.succ (Nat.succ (d)))))))) a7 :: l
@[reducible] def i9 (d:Nat) (a0 a1 a2 a3 a4 a5 a6 a7 a8:PV) (l:List Item):List Item:=io (d) a0 :: io (Nat.succ (d)) a1 :: io (Nat.succ (Nat.succ (d))) a2 :: io (Nat.succ (Nat.succ (Nat.succ (d)))) a3 :: io (Nat.succ (Nat.succ (Nat.succ (Nat.succ (d))))) a4 :: io (Nat.succ (Nat.succ (Nat.succ (Nat.succ (Nat.succ (d)))))) a5 :: io (Nat.succ (Nat.succ (Nat.succ (Nat.succ (Nat.succ (Nat.succ (d))))))) a6 :: io (Nat.succ (Nat.succ (Nat.succ (Nat.succ (Nat.succ (Nat.succ (Nat.succ (d)))))))) a7 :: io (Nat.succ (Nat.succ (Nat.succ (Nat.succ (Nat.succ (Nat.succ (Nat.succ (Nat.succ (d))))))))) a8 :: l
end Go.Proofs.YtgpdhgadmjfokaaGreat
namespace Go.Proofs.YtgpdhgadmjfokaaGreat
open Go.RowKit
section
variable {A:Amb}{s:St}
theorem Qaq {p:Nat}{E':TypeId}{cs:List LV}(cs':List LV)(hp:s.tab.ent p=some (.box E' cs))(k:Qiu cs cs'):Wk A s ⟨s.tm,(p,some (.box E' cs')) :: s.tab⟩:=fun a w r=>by
  obtain ⟨gh,r⟩:=r
  obtain ⟨g,cur,h1,h2,h3,h4⟩:=r.cx.en p _ hp
  exact ⟨gh,r.mod hp (Zt w) (fun _ _ _=>rfl) ⟨g,cur,h1,h2,h3,h4.nils k⟩⟩
end
end Go.Proofs.YtgpdhgadmjfokaaGreat
namespace Go.Proofs.YtgpdhgadmjfokaaGreat
open Go.RowKit
section
variable {A:Amb}{P:Program}{s:St}{x y:Operand}{d:Nat}{T T' ty:TypeId}{pos:String}{af:Array Edge}{g:Option (Nat×Bool)}
theorem Qe1 (op:BinOp)(hop:op= .and∨op= .or)(m n:Nat)(hm:m < 9223372036854775808)(hn:n < 9223372036854775808):bits op .i64 (m:Int) (n:Int)=((if op= .and then m &&& n else m ||| n:Nat):Int):=by
  have h1:(BitVec.ofInt 64 (m:Int)).toNat=m:=by rw[BitVec.ofInt_natCast,BitVec.toNat_ofNat]; exact cZ (by omega)
  have h2:(BitVec.ofInt 64 (n:Int)).toNat=n:=by rw[BitVec.ofInt_natCast,BitVec.toNat_ofNat]; exact cZ (by omega)
  rcases hop with rfl | rfl
  · have hx : m &&& n < 2 ^ 63 := Nat.and_lt_two_pow _ (by omega)
    show IntKind.i64.wrap ((BitVec.ofInt 64 (m:Int) &&& BitVec.ofInt 64 (n:Int)).toNat:Int)=_
    rw[BitVec.toNat_and,h1,h2,IntWalk.i64_in _ (by omega)]
    rfl
  · have hx : m ||| n < 2 ^ 63 := Nat.or_lt_two_pow (by omega) (by omega)
    show IntKind.i64.wrap ((BitVec.ofInt 64 (m:Int) ||| BitVec.ofInt 64 (n:Int)).toNat:Int)=_
    rw[BitVec.toNat_or,h1,h2,IntWalk.i64_in _ (by omega)]
    rfl
theorem Qq7 {m n:Int}(hx:Evl A s x (dI m))(hy:Evl A s y (dI n))(hn:Nat.blt d A.n=true)(h0:0≤m)(h00:0≤n):Does A P ⟨some d, .binOp .and T x y T',ty,pos,af,g⟩ s (s.put d (lf (dI ((m.toNat &&& n.toNat:Nat):Int)))):=
  Qe rfl hn fun gh a w r=>by
    have h1:=hx.i r
    have h2:=hy.i r
    have k1:=(LVR.int (hx gh a w r)).2
    have k2:=(LVR.int (hy gh a w r)).2
    have hb:=Qe1 .and (.inl rfl) m.toNat n.toNat (by omega) (by omega)
    rw[cQ h0,cQ h00] at hb
    have hb:bits .and .i64 m n=((m.toNat &&& n.toNat:Nat):Int):=hb
    have h3:Op.intBits .and .i64 m n=pure (.int .i64 ((m.toNat &&& n.toNat:Nat):Int)):=by rw[← hb]; rfl
    have hx2:m.toNat &&& n.toNat≤m.toNat:=Nat.and_le_left
    refine ⟨.int .i64 ((m.toNat &&& n.toNat:Nat):Int), ?_,_,rfl,Yf (by omega)⟩
    simp only[execOp,h1,h2,eqGuard_at_int,binOp,h3]
    simp
theorem Qrw {m n:Int}(hx:Evl A s x (dI m))(hy:Evl A s y (dI n))(hn:Nat.blt d A.n=true)(h0:0≤m)(h00:0≤n):Does A P ⟨some d, .binOp .or T x y T',ty,pos,af,g⟩ s (s.put d (lf (dI ((m.toNat ||| n.toNat:Nat):Int)))):=
  Qe rfl hn fun gh a w r=>by
    have h1:=hx.i r
    have h2:=hy.i r
    have k1:=(LVR.int (hx gh a w r)).2
    have k2:=(LVR.int (hy gh a w r)).2
    have hb:=Qe1 .or (.inr rfl) m.toNat n.toNat (by omega) (by omega)
    rw[cQ h0,cQ h00] at hb
    have hb:bits .or .i64 m n=((m.toNat ||| n.toNat:Nat):Int):=hb
    have h3:Op.intBits .or .i64 m n=pure (.int .i64 ((m.toNat ||| n.toNat:Nat):Int)):=by rw[← hb]; rfl
    have hx2:m.toNat ||| n.toNat < 2 ^ 63:=Nat.or_lt_two_pow (by omega) (by omega)
    refine ⟨.int .i64 ((m.toNat ||| n.toNat:Nat):Int), ?_,_,rfl,Yf (by omega)⟩
    simp only[execOp,h1,h2,eqGuard_at_int,binOp,h3]
    simp
theorem Qqs {m n:Int}(hx:Evl A s x (dI m))(hy:Evl A s y (dI n))(hn:Nat.blt d A.n=true)(h0:0≤n∧n≤62)(hm:0≤m):Does A P ⟨some d, .binOp .shr T x y T',ty,pos,af,g⟩ s (s.put d (lf (dI (m / 2 ^ n.toNat)))):=
  Qe rfl hn fun gh a w r=>by
    have h1:=hx.i r
    have h2:=hy.i r
    have k1:=(LVR.int (hx gh a w r)).2
    have h3:Op.shift .shr .i64 m .i64 n=pure (.int .i64 (m / 2 ^ n.toNat)):=by
      rw[shift_shr_any _ _ _ _ h0.1,show IntKind.i64.bits=64 from rfl,ck (by omega)]
    have h4:0≤m / 2 ^ n.toNat:=Int.ediv_nonneg hm (Int.pow_nonneg (by decide))
    have h5:m / 2 ^ n.toNat≤m:=Int.ediv_le_self _ hm
    refine ⟨.int .i64 (m / 2 ^ n.toNat), ?_,_,rfl,Yf (by omega)⟩
    simp only[execOp,h1,h2,eqGuard_at_int,binOp,h3]
    simp
end
end Go.Proofs.YtgpdhgadmjfokaaGreat
namespace Go.Proofs.YtgpdhgadmjfokaaGreat
open Go.RowKit
theorem Qo5:EqT Tryz.prog 2 86 true (.pr .int .bool):=EqT.struct Tryz.underlying86 (by kernel_rfl) (EqFs.cons (by decide) rfl Kd (fun _=>rfl) (EqT.int Jl) (EqFs.one (by decide) rfl QeX (fun _=>rfl) (EqT.bool Zf)))
theorem QpD:(Tryz.prog.eqGuardType Tryz.prog.depth 86=false)∧2≤10000:=⟨by kernel_rfl,by decide⟩
end Go.Proofs.YtgpdhgadmjfokaaGreat
namespace Go.Proofs.YtgpdhgadmjfokaaGreat
open Go.RowKit
def QbA (xs:List Int):List Int:=xs.mergeSort fun x y=>decide (x≤y)
theorem Kh (xs:List Int):(QbA xs).Perm xs:=List.mergeSort_perm ..
theorem Qjc (xs:List Int):(QbA xs).length=xs.length:=(Kh xs).length_eq
theorem Qjx {xs:List Int}{x:Int}:x∈QbA xs↔x∈xs:=(Kh xs).mem_iff
theorem Qd9 (xs:List Int):(QbA xs).Pairwise fun x y=>x≤y:=by
  have h:=List.pairwise_mergeSort (le:=fun x y:Int=>decide (x≤y)) (fun a b c h1 h2=>by simp only[aU] at*; omega) (fun a b=>by simp only[bP,aU]; omega) xs
  exact h.imp fun h=>by simpa using h
def Qsd (P:Program)(f:FuncId):Prop:=∀(blk cap:Nat) (zs:List Int) (w:World),Sort.Holds (Value.int .i64) w blk 0 zs.toArray→blk < w.heap.size→zs.length < 4611686018427387904→
  Calls P f #[.slice (some ⟨blk,0,none⟩) zs.length cap] w fun e w'=>e= .returned (.tuple #[])∧∃n os,w'=Sort.grow (Sort.putRow (Value.int .i64) (Sort.ahead w n) blk 0 (QbA zs).toArray) os
def QfB (P:Program)(f:FuncId):Prop:=∀w:World,Calls P f #[.slice none 0 0] w fun e w'=>e= .returned (.tuple #[])∧Nw w w'
end Go.Proofs.YtgpdhgadmjfokaaGreat
