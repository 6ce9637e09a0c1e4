/- Abstract states: struct literals of types with maps; clearing the end of an own slice; an own slice cut short; keys that are structs. No program is named here. -/
import Derived.Test.YtnakmhfjafecpaaGreatAg
import Derived.Test.YtnakmhfjafecpaaGreatAe
import Derived.DeepKeys3
import Derived.Laws.Shifts
import Derived.Laws.BitsAllLaws
import Derived.Test.YtnakmhfjafecpaaGreatAf
import Derived.Test.YtnakmhfjafecpaaGreatAk
import Derived.Sort.EveryDepth
import Derived.Sort.OwnSortedInts
import Derived.Shelf.Sort.AssemblyIn
import Derived.Test.YtnakmhfjafecpaaGreatAi
import Derived.Test.YtnakmhfjafecpaaGreatAs
set_option linter.unusedSimpArgs false
set_option linter.unusedVariables false
set_option linter.unusedSectionVars false
namespace Go.Proofs.YtnakmhfjafecpaaGreat
open Go.RowKit
section
variable {A:Amb}{P:Program}{s:St}{x y z:Operand}{d:Nat}{T T' ty:TypeId}{pos:String}{af:Array Edge}{g:Option (Nat×Bool)}
def QpN (P:Program)(T:TypeId)(offs:List (Nat×Nat))(zs:List Value):Prop:=
  ∃fs,P.underlying T=some (.struct fs)∧(∀w,(fs.mapM fun (f:Field)=>do pure (f.offset,← sizeOf f.type)).run P w= .ok offs.toArray w)∧zer P T=some (.agg zs.toArray)
theorem Qnr {fs:List Field}{offs:List (Nat×Nat)}{zs:List Value}(hu:P.underlying T=some (.struct fs.toArray))(hp:plB P fs offs=true)(hz:zer P T=some (.agg zs.toArray)):QpN P T offs zs:=
  ⟨_,hu,fun w=>by
    rw[List.mapM_toArray]
    have:=JM (P:=P) (w:=w) hp
    simp only[map_eq_pure_bind,Go.Sem.run_bind,this,Result.andThen_ok,Go.Sem.run_pure],hz⟩
theorem Qj4 (al:Nat→Prop)(gh:Gh)(w:World):∀zs:List Value,LVs al gh w (zs.map LV.val) zs
  | []=>rfl
  | z :: zs=>⟨z,zs,rfl,rfl,Qj4 al gh w zs⟩
theorem Qgy {zs:List Value}{offs:List (Nat×Nat)}{parts:Array (Nat×Operand)}{css:List (Bool×List LV)}{ls:List LV}(hb:QpN P T offs zs)(hv:EvL A s (parts.toList.map (·.2)) css)(hok:∀c∈css,Yf s.tab c.2=true)
    (hf:QfT offs (zs.map LV.val) ((parts.toList.map (·.1)).zip (css.map (·.2)))=some ls) (hn:Nat.blt d A.n=true):Does A P ⟨some d, .build T parts,ty,pos,af,g⟩ s (s.put d (ag ls)):=
  Qu rfl hn fun gh a w r=>by
    obtain ⟨fs,h1,h2,h3⟩:=hb
    have hvs:=hv.cms r
    have hlen:=hvs.len
    generalize hV:(parts.toList.map (·.2)).map a.eval=vs at*
    have hpl:parts.toList.length=vs.length:=by rw[← hV]; simp
    have hcells:∀(cs:List (Bool×List LV)) (vs:List Value),CmsR s.tab.al gh w cs vs→(∀c∈cs,Yf s.tab c.2=true)→∀(i:Nat) (c:Bool×List LV) (v:Value),cs[i]? =some c→vs[i]? =some v→∃us,v.cells=us.toArray∧LVs s.tab.al gh w c.2 us:=by
      intro cs
      induction cs with
      | nil=>intro vs _ _ i c v h; simp at h
      | cons c cs ih=>
        rintro vs ⟨v,vs',rfl,k1,k2⟩ hok i c' v' hc hv'
        cases i with
        | zero=>
          simp at hc hv'
          subst hc; subst hv'
          have hc:=hok c (List.mem_cons_self ..)
          obtain ⟨b,ls⟩:=c
          exact CmR.cells k1 fun hb=>by
            subst hb
            obtain ⟨l,rfl,q1⟩:=k1
            simp only[Yf,Bool.and_true] at hc
            obtain ⟨h3,h4⟩:=VQ hc
            exact q1.oneCell h4 h3 fun q ⟨e,he⟩=>(r.cx.en q e he).oneCell
        | succ i=>exact ih vs' k2 (fun c hc=>hok c (List.mem_cons_of_mem _ hc)) i c' v' (by simpa using hc) (by simpa using hv')
    have hzl:((parts.toList.map (·.1)).zip (css.map (·.2))).length=vs.length:=by rw[List.length_zip,List.length_map,List.length_map]; omega
    obtain ⟨cur',k1,k2⟩:=QcT (al:=s.tab.al) (gh:=gh) (w:=w) (cur:=zs.toArray) hf hzl.symm (fun i p v hp hv'=>by
      have hi:=List.getElem?_zip_eq_some.1 hp
      have h5:=hi.2
      rw[List.getElem?_map] at h5
      obtain ⟨c',h6,h7⟩:=Option.map_eq_some_iff.1 h5
      rw[← h7]
      exact hcells css vs hvs hok i c' v h6 hv') (by simpa using Qj4 s.tab.al gh w zs)
    refine ⟨.agg cur', ?_,cur'.toList,by simp,k2⟩
    have hz:(((parts.toList.map (·.1)).zip (css.map (·.2))).map (·.1)).zip vs=(parts.map fun p=>(p.1,a.eval p.2)).toList:=by
      rw[List.map_fst_zip (by rw[List.length_map,List.length_map]; omega),Array.toList_map,← hV,List.map_map]
      generalize parts.toList=pl
      induction pl with
      | nil=>rfl
      | cons p ps ih=>simp[ih]
    rw[hz] at k1
    simp only[execOp,Instr.build,Go.Sem.run_bind,Us h3,Result.andThen_ok,run_underlying h1,h2,Value.cells]
    rw[k1]
    simp
end
theorem Qcb {A:Amb}{P:Program}{s:St}{fn:Func}(hr:fn.results= #[]):Res A P fn s (.tup []):=fun gh a w g=>by
  refine ⟨.tuple #[], ?_,[],rfl,rfl⟩
  rw[U2,hr]; simp[VZ,Sem.run_bind]
section
variable {A:Amb}{P:Program}{s:St}{x y z:Operand}{d:Nat}{T T' ty:TypeId}{pos:String}{af:Array Edge}{g:Option (Nat×Bool)}
variable {E:TypeId}{e:Ty}{xs:List e.Den}{q lo n:Nat}
theorem OwnL.takeW {w:World}(hf:e.flat=true):∀{xs:List e.Den} {fp:List Nat} {cs:List Value} (k:Nat),OwnL (Own e w) fp cs xs→OwnL (Own e w) [] (cs.take (k*e.wd)) (xs.take k)
  | [],_,_,k,h=>by rw[h.2]; simp[OwnL]
  | x :: xs,_,_,0,_=>by simp[OwnL]
  | x :: xs,_,_,k+1,⟨f1,f2,c1,c2,h1,h2,h3,h4⟩=>by
    have hl:=h3.len
    have hf1:=V1 hf h3
    subst hf1
    rw[h2]
    refine ⟨[],[],c1,c2.take (k*e.wd),rfl, ?_,h3,OwnL.takeW hf k h4⟩
    rw[Nat.succ_mul,Nat.add_comm,← hl,List.take_length_add_append]
theorem QbT (t i:Nat)(hi:lk s.tm i=some (lf (.sub q e.wd 0 n)))(he:s.tab.ent q=some (.arr E e xs))(hn:n≤xs.length)(hf:e.flat=true)(hfr:Fresh s t)(hk0:A.k0≤t):
    Wk A s ⟨(i,lf (.ref t)) :: s.tm,(t,some (.arr E e (xs.take n))) :: (q,none) :: s.tab⟩:=fun a w r=>by
  obtain ⟨gh,r⟩:=r
  obtain ⟨v,h1,l,h2,h3⟩:=r.tm i _ hi
  simp only[List.cons.injEq,and_true] at h2
  subst h2
  obtain ⟨B,m,c,q1,q2⟩:=h3 ⟨_,he⟩
  have hO:Own (.sl E e) w (gh.f q) [gh.h q] xs:=r.cx.en q _ he
  have hv:v= .slice B n c:=by
    rw[q2]
    congr 1
    split
    · rfl
    · cases B with
      | none=>rfl
      | some b=>cases b; simp[Addr.add]
  have hO':Own (.sl E e) w (gh.f q) [v] (xs.take n):=by
    rcases hO with ⟨k1,k2,k3⟩ | ⟨b,cap,cur,fps,p2,p3,p4,p5,p6,p7,p8⟩
    · subst k3
      simp only[List.cons.injEq,and_true] at k2
      rw[q1] at k2
      simp only[Value.slice.injEq] at k2
      obtain ⟨rfl,rfl,rfl⟩:=k2
      have:n=0:=by simpa using hn
      subst this
      exact .inl ⟨k1,by rw[hv],by simp⟩
    · have hfp := p8.fp0 hf
      subst hfp
      simp only[List.cons.injEq,and_true] at p3
      rw[q1] at p3
      simp only[Value.slice.injEq] at p3
      obtain ⟨rfl,rfl,rfl⟩:=p3
      have hl:(xs.take n).length=n:=by rw[List.length_take]; omega
      refine .inr ⟨b,c,cur,[],p2,by rw[hv,hl],p4,by rw[hl]; omega,p6,p7, ?_⟩
      rw[hl]
      have:=p8.takeW hf n
      rwa [List.take_take,Nat.min_eq_left (Nat.mul_le_mul_right _ hn)] at this
  have r2:=r.make t hfr hk0 [q] (fun q' h=>by rw[List.mem_singleton.1 h]; exact ⟨_,he⟩) (ZO w) (fun _ _ _=>rfl) hO' (r.cx.nd q ⟨_,he⟩) (fun g hg=> .inr ⟨q,List.mem_singleton.2 rfl,hg⟩)
  exact ⟨_,r2.know h1 (pv:=lf (.ref t)) ⟨_,rfl,fun _=>by simp⟩⟩
theorem Qdh (z:Array Value)(n:Nat):Builtin.zeroCells z n=madeCells z (n*z.size):=rfl
theorem Qba {Tl E':TypeId}{zv:Value}(hx:Evl A s x (.sub q e.wd lo n))(he:s.tab.ent q=some (.arr E e xs))(hb:lo+n=xs.length)(hT:P.underlying Tl=some (.slice E'))(hz:zer P E'=some zv)(hzc:zv.cells.toList=e.zeros)(hzo:e.zeros.all (·.oneCell')=true)(hf:e.flat=true):
    Does A P ⟨none, .call ⟨.builtin .clear, #[x], #[Tl]⟩,ty,pos,af,g⟩ s ⟨s.tm,(q,some (.arr E e (xs.take lo++List.replicate n e.zero))) :: s.tab⟩:=fun a w K Q r hK=>by
  obtain ⟨gh,r⟩:=r
  have hO:Own (.sl E e) w (gh.f q) [gh.h q] xs:=r.cx.en q _ he
  have hO0:=hO
  obtain ⟨B,m,c,q1,q2⟩:=hx gh a w r ⟨_,he⟩
  have hzl:e.zeros.length=e.wd:=(Yg e w).len
  have hzs:zv.cells=e.zeros.toArray:=by rw[← hzc]
  rcases Nat.eq_zero_or_pos n with hn0 | hn0
  · subst hn0
    have hxs:xs.take lo++List.replicate 0 e.zero=xs:=by rw[List.take_of_length_le (by omega)]; simp
    have e0:(execOp a.eval ⟨none, .call ⟨.builtin .clear, #[x], #[Tl]⟩,ty,pos,af,g⟩).run P w= .ok (.value (.tuple #[])) w:=by
      simp only[execOp,resolve,invoke,builtin,q2,Go.Sem.run_bind,Go.Sem.run_pure,Result.andThen_ok,List.map_toArray,List.map_cons,List.map_nil]
      generalize (if c=lo then B else B.map (·.add (lo*e.wd)))=BB
      cases BB <;> simp[Builtin.clear_,run_underlying hT]
    unfold Oper.wp
    rw[e0,Oper.upon_value]
    refine hK _ _ ⟨gh,r.mod he (ZO w) (fun _ _ _=>rfl) ?_⟩
    rw[hxs]
    exact hO0
  · rcases hO with ⟨_, _, h⟩ | ⟨b, cap, cur, fps, p2, p3, p4, p5, p6, p7, p8⟩
    · subst h; simp at hb; omega
    have hfp:=p8.fp0 hf
    subst hfp
    simp only[List.cons.injEq,and_true] at p3
    rw[q1] at p3
    simp only[Value.slice.injEq] at p3
    obtain ⟨rfl,rfl,rfl⟩:=p3
    rw[if_neg (by omega)] at q2
    simp only[Option.map_some,Addr.add_lit,Nat.zero_add] at q2
    have hzz:(Builtin.zeroCells zv.cells n).toList=(List.replicate n e.zeros).flatten:=by
      have h2:=Qbc e.zeros n (by rw[hzl]; exact Vm e)
      rw[Qdh,hzs,List.size_toArray,h2]
    have hfl:((List.replicate n e.zeros).flatten).length=n*e.wd:=by simp[hzl]
    have hwd:=Nat.mul_le_mul_right e.wd p5
    have hle:lo*e.wd+n*e.wd=xs.length*e.wd:=by rw[← hb,Nat.add_mul]
    have hst:=VE (P:=P) (b:=b) (E:=E) ((List.replicate n e.zeros).flatten) (lo*e.wd) 0 w cur p4 (by rw[hfl,p7]; omega) (fun v hv=>by
      obtain ⟨l,hl,hv⟩:=List.mem_flatten.1 hv
      rw[List.eq_of_mem_replicate hl] at hv
      exact List.all_eq_true.1 hzo v hv)
    rw[Nat.add_zero] at hst
    have e0:(execOp a.eval ⟨none, .call ⟨.builtin .clear, #[x], #[Tl]⟩,ty,pos,af,g⟩).run P w= .ok (.value (.tuple #[])) (Wg w b (lo*e.wd) ((List.replicate n e.zeros).flatten)):=by
      obtain ⟨n,rfl⟩:∃k,n=k+1:=⟨n - 1,by omega⟩
      simp only[execOp,resolve,invoke,builtin,q2,Go.Sem.run_bind,Go.Sem.run_pure,Result.andThen_ok,List.map_toArray,List.map_cons,List.map_nil]
      simp[Builtin.clear_,run_underlying hT,Us hz,hzz,hst]
    unfold Oper.wp
    rw[e0,Oper.upon_value]
    obtain ⟨cur',m1,m2,m3⟩:=Ue b E (0,0) ((List.replicate n e.zeros).flatten) w (lo*e.wd) cur p4 (by rw[hfl,p7]; omega)
    refine hK _ _ ⟨gh,r.mod he (Ky w b _ _) (fun g0 _ hg0=>Xs w b _ _ g0 fun h=>hg0 (by rw[p2,h]; simp)) ?_⟩
    have hl:(xs.take lo++List.replicate n e.zero).length=xs.length:=by simp; omega
    refine .inr ⟨b,c,cur',[],p2,by rw[q1,hl],m1,by omega,p6,by rw[m2]; exact p7, ?_⟩
    rw[hl]
    have hlist:cur'.toList.take (xs.length*e.wd)=(cur.toList.take (xs.length*e.wd)).take (lo*e.wd)++(List.replicate n e.zeros).flatten:=by
      have h9:=Qa6 (l:=cur.toList) (len:=xs.length*e.wd) (lo:=lo*e.wd) (cs:=(List.replicate n e.zeros).flatten) (by rw[hfl]; omega) (by simp; omega)
      rw[m3,h9,hfl,List.drop_eq_nil_of_le (by simp; omega),List.append_nil]
    rw[hlist]
    have keep:∀{cs:List Value} {zs:List e.Den},OwnL (Own e w) [] cs zs→OwnL (Own e (Wg w b (lo*e.wd) ((List.replicate n e.zeros).flatten))) [] cs zs:=fun h=>h.mono fun f c x hf' ho=>ho.keep fun g hg=>absurd (hf' g hg) (by simp)
    exact (keep (p8.takeW hf lo)).append (OwnL.zeros e _ n)
end
end Go.Proofs.YtnakmhfjafecpaaGreat
namespace Go.Proofs.YtnakmhfjafecpaaGreat
open Go.RowKit
section
variable {A:Amb}{P:Program}{s:St}{x y:Operand}{d:Nat}{T T' ty:TypeId}{pos:String}{af:Array Edge}{g:Option (Nat×Bool)}
theorem QfQ (op:BinOp)(hop:op= .and∨op= .or)(m n:Nat)(hm:m < 9223372036854775808)(hn:n < 9223372036854775808):bits op .i64 (m:Int) (n:Int)=((if op= .and then m &&& n else m ||| n:Nat):Int):=by
  have h1:(BitVec.ofInt 64 (m:Int)).toNat=m:=by rw[BitVec.ofInt_natCast,BitVec.toNat_ofNat]; exact Nat.mod_eq_of_lt (by omega)
  have h2:(BitVec.ofInt 64 (n:Int)).toNat=n:=by rw[BitVec.ofInt_natCast,BitVec.toNat_ofNat]; exact Nat.mod_eq_of_lt (by omega)
  rcases hop with rfl | rfl
  · have hx : m &&& n < 2 ^ 63 := Nat.and_lt_two_pow _ (by omega)
    show IntKind.i64.wrap ((BitVec.ofInt 64 (m:Int) &&& BitVec.ofInt 64 (n:Int)).toNat:Int)=_
    rw[BitVec.toNat_and,h1,h2,IntWalk.i64_in _ (by omega)]
    rfl
  · have hx : m ||| n < 2 ^ 63 := Nat.or_lt_two_pow (by omega) (by omega)
    show IntKind.i64.wrap ((BitVec.ofInt 64 (m:Int) ||| BitVec.ofInt 64 (n:Int)).toNat:Int)=_
    rw[BitVec.toNat_or,h1,h2,IntWalk.i64_in _ (by omega)]
    rfl
theorem QcK {m n:Int}(hx:Evl A s x (dI m))(hy:Evl A s y (dI n))(hn:Nat.blt d A.n=true)(h0:0≤m)(h00:0≤n):Does A P ⟨some d, .binOp .and T x y T',ty,pos,af,g⟩ s (s.put d (lf (dI ((m.toNat &&& n.toNat:Nat):Int)))):=
  Qu rfl hn fun gh a w r=>by
    have h1:=hx.i r
    have h2:=hy.i r
    have k1:=(LVR.int (hx gh a w r)).2
    have k2:=(LVR.int (hy gh a w r)).2
    have hb:=QfQ .and (.inl rfl) m.toNat n.toNat (by omega) (by omega)
    rw[Int.toNat_of_nonneg h0,Int.toNat_of_nonneg h00] at hb
    have hb:bits .and .i64 m n=((m.toNat &&& n.toNat:Nat):Int):=hb
    have h3:Op.intBits .and .i64 m n=pure (.int .i64 ((m.toNat &&& n.toNat:Nat):Int)):=by rw[← hb]; rfl
    have hx2:m.toNat &&& n.toNat≤m.toNat:=Nat.and_le_left
    refine ⟨.int .i64 ((m.toNat &&& n.toNat:Nat):Int), ?_,_,rfl,YA (by omega)⟩
    simp only[execOp,h1,h2,eqGuard_at_int,binOp,h3]
    simp
theorem Qnb {m n:Int}(hx:Evl A s x (dI m))(hy:Evl A s y (dI n))(hn:Nat.blt d A.n=true)(h0:0≤m)(h00:0≤n):Does A P ⟨some d, .binOp .or T x y T',ty,pos,af,g⟩ s (s.put d (lf (dI ((m.toNat ||| n.toNat:Nat):Int)))):=
  Qu rfl hn fun gh a w r=>by
    have h1:=hx.i r
    have h2:=hy.i r
    have k1:=(LVR.int (hx gh a w r)).2
    have k2:=(LVR.int (hy gh a w r)).2
    have hb:=QfQ .or (.inr rfl) m.toNat n.toNat (by omega) (by omega)
    rw[Int.toNat_of_nonneg h0,Int.toNat_of_nonneg h00] at hb
    have hb:bits .or .i64 m n=((m.toNat ||| n.toNat:Nat):Int):=hb
    have h3:Op.intBits .or .i64 m n=pure (.int .i64 ((m.toNat ||| n.toNat:Nat):Int)):=by rw[← hb]; rfl
    have hx2:m.toNat ||| n.toNat < 2 ^ 63:=Nat.or_lt_two_pow (by omega) (by omega)
    refine ⟨.int .i64 ((m.toNat ||| n.toNat:Nat):Int), ?_,_,rfl,YA (by omega)⟩
    simp only[execOp,h1,h2,eqGuard_at_int,binOp,h3]
    simp
theorem QgV {m n:Int}(hx:Evl A s x (dI m))(hy:Evl A s y (dI n))(hn:Nat.blt d A.n=true)(h0:0≤n∧n≤62)(hb: -9223372036854775808≤m*2 ^ n.toNat∧m*2 ^ n.toNat≤9223372036854775807):Does A P ⟨some d, .binOp .shl T x y T',ty,pos,af,g⟩ s (s.put d (lf (dI (m*2 ^ n.toNat)))):=
  Qu rfl hn fun gh a w r=>by
    have h1:=hx.i r
    have h2:=hy.i r
    have h3:Op.shift .shl .i64 m .i64 n=pure (.int .i64 (m*2 ^ n.toNat)):=by
      rw[shift_shl_any _ _ _ _ h0.1,show IntKind.i64.bits=64 from rfl,Nat.min_eq_left (by omega),IntWalk.i64_in _ (by omega)]
    refine ⟨.int .i64 (m*2 ^ n.toNat), ?_,_,rfl,YA hb⟩
    simp only[execOp,h1,h2,eqGuard_at_int,binOp,h3]
    simp
theorem QbV {m n:Int}(hx:Evl A s x (dI m))(hy:Evl A s y (dI n))(hn:Nat.blt d A.n=true)(h0:0≤n∧n≤62)(hm:0≤m):Does A P ⟨some d, .binOp .shr T x y T',ty,pos,af,g⟩ s (s.put d (lf (dI (m / 2 ^ n.toNat)))):=
  Qu rfl hn fun gh a w r=>by
    have h1:=hx.i r
    have h2:=hy.i r
    have k1:=(LVR.int (hx gh a w r)).2
    have h3:Op.shift .shr .i64 m .i64 n=pure (.int .i64 (m / 2 ^ n.toNat)):=by
      rw[shift_shr_any _ _ _ _ h0.1,show IntKind.i64.bits=64 from rfl,Nat.min_eq_left (by omega)]
    have h4:0≤m / 2 ^ n.toNat:=Int.ediv_nonneg hm (Int.pow_nonneg (by decide))
    have h5:m / 2 ^ n.toNat≤m:=Int.ediv_le_self _ hm
    refine ⟨.int .i64 (m / 2 ^ n.toNat), ?_,_,rfl,YA (by omega)⟩
    simp only[execOp,h1,h2,eqGuard_at_int,binOp,h3]
    simp
end
end Go.Proofs.YtnakmhfjafecpaaGreat
namespace Go.Proofs.YtnakmhfjafecpaaGreat
open Go.RowKit
theorem JL:EqT Tryz.prog 2 61 true (.pr .int .bool):=EqT.struct Tryz.underlying61 (by kernel_rfl) (EqFs.cons (by decide) rfl QD (fun _=>rfl) (EqT.int QdP) (EqFs.one (by decide) rfl ZH (fun _=>rfl) (EqT.bool VV)))
theorem Jy:(Tryz.prog.eqGuardType Tryz.prog.depth 61=false)∧2≤10000:=⟨by kernel_rfl,by decide⟩
theorem Qp3:ZeroV Tryz.prog 3 false .int:=⟨_,Xl,rfl⟩
end Go.Proofs.YtnakmhfjafecpaaGreat
namespace Go.Proofs.YtnakmhfjafecpaaGreat
open Go.RowKit
def WW (xs:List Int):List Int:=xs.mergeSort fun x y=>decide (x≤y)
theorem JD (xs:List Int):(WW xs).Perm xs:=List.mergeSort_perm ..
theorem QaG (xs:List Int):(WW xs).length=xs.length:=(JD xs).length_eq
theorem QaS {xs:List Int}{x:Int}:x∈WW xs↔x∈xs:=(JD xs).mem_iff
theorem HT (xs:List Int):(WW xs).Pairwise fun x y=>x≤y:=by
  have h:=List.pairwise_mergeSort (le:=fun x y:Int=>decide (x≤y)) (fun a b c h1 h2=>by simp only[decide_eq_true_eq] at*; omega) (fun a b=>by simp only[Bool.or_eq_true,decide_eq_true_eq]; omega) xs
  exact h.imp fun h=>by simpa using h
theorem QaB {w:World}:∀{xs:List Int} {fp:List Nat} {cs:List Value},OwnL (Own .int w) fp cs xs→fp=[]∧cs=xs.map (Value.int .i64)∧∀x∈xs, -9223372036854775808≤x∧x≤9223372036854775807
  | [],fp,cs,h=>⟨h.1,h.2,fun x hx=>by cases hx⟩
  | x :: xs,fp,cs,h=>by
    obtain ⟨f1,f2,l,r,rfl,rfl,⟨rfl,rfl,h1⟩,h2⟩:=h
    obtain ⟨rfl,rfl,h3⟩:=QaB h2
    exact ⟨rfl,rfl,fun y hy=>by rcases List.mem_cons.1 hy with rfl | hy; exact h1; exact h3 y hy⟩
theorem Qfb {w:World}:∀{xs:List Int},(∀x∈xs, -9223372036854775808≤x∧x≤9223372036854775807)→OwnL (Own .int w) [] (xs.map (Value.int .i64)) xs
  | [],_=>⟨rfl,rfl⟩
  | x :: xs,h=>⟨[],[],[.int .i64 x],xs.map (Value.int .i64),rfl,rfl,⟨rfl,rfl,h x (List.mem_cons_self ..)⟩,Qfb fun y hy=>h y (List.mem_cons_of_mem _ hy)⟩
def QlL (P:Program)(f:FuncId):Prop:=∀(blk cap:Nat) (zs:List Int) (w:World),Sort.Holds (Value.int .i64) w blk 0 zs.toArray→blk < w.heap.size→zs.length < 4611686018427387904→
  Calls P f #[.slice (some ⟨blk,0,none⟩) zs.length cap] w fun e w'=>e= .returned (.tuple #[])∧∃n os,w'=Sort.grow (Sort.putRow (Value.int .i64) (Sort.ahead w n) blk 0 (WW zs).toArray) os
def QfV (P:Program)(f:FuncId):Prop:=∀w:World,Calls P f #[.slice none 0 0] w fun e w'=>e= .returned (.tuple #[])∧Nw w w'
theorem Qmi {P:Program}{f:FuncId}{E:TypeId}(hS:QlL P f)(hN:QfV P f)(xs:List Int)(hl:xs.length≤1000000000):FC P f [(false,[.ref 0])] [(0,some (.arr E .int xs))] 1 (Is (.tup []) [(0,some (.arr E .int (WW xs)))]):=fun gh w vs cx ha=>by
  obtain ⟨v,vs',rfl,⟨l,hl_,h1⟩,rfl⟩:=ha
  simp only[List.cons.injEq,and_true] at hl_
  subst hl_
  have hv:v=gh.h 0:=h1 ⟨_,rfl⟩
  subst hv
  have hO:Own (.sl E .int) w (gh.f 0) [gh.h 0] xs:=cx.en 0 _ rfl
  have alq:∀(y:List Int) q,Tab.al [(0,some (Ent.arr E .int y))] q→q=0:=fun y q ⟨e,he⟩=>by
    rw[Qp] at he
    split at he
    · assumption
    · cases he
  rcases hO with ⟨hf,hc,hx⟩ | ⟨g,cap,cur,fps,hf,hc,hb,hn,hcap,hsz,hL⟩
  · simp only [List.cons.injEq, and_true] at hc
    subst hx
    rw[hc]
    refine Calls.mono (hN w) fun e w' he=> ?_
    obtain ⟨rfl,h2⟩:=he
    refine ⟨_,_,_,gh,rfl,⟨rfl,rfl⟩,⟨fun q e he=> ?_,fun q q' hq hq' hne=>absurd ((alq _ q hq).trans (alq _ q' hq').symm) hne,fun q hq=> ?_,fun q hq g hg=> ?_,fun g hg=>Nat.lt_of_lt_of_le (cx.nl g hg) h2.size⟩,⟨[],rfl,rfl⟩,
      ⟨h2.grw,fun g hg _=>Below.block h2 g hg,fun g hg=> .inl hg,fun q hq g hg=> ?_⟩,fun q _ _=>rfl⟩
    · rw [Qp] at he
      split at he
      · rename_i e0; subst e0; cases he
        exact .inl ⟨hf,by rw[hc],by simp[WW]⟩
      · cases he
    · rw[alq _ q hq,hf]; exact List.nodup_nil
    · rw[alq _ q hq,hf] at hg; cases hg
    · rw[alq _ q hq,hf] at hg; cases hg
  · simp only [List.cons.injEq, and_true] at hc
    rw[Nat.mul_one] at hL
    obtain ⟨rfl,ht,hr⟩:=QaB hL
    have hg:g < w.heap.size:=(Array.getElem?_eq_some_iff.1 hb).1
    rw[hc]
    have hm:xs.length≤9223372036854775807:=by unfold maxLen at hcap; omega
    refine Calls.mono (hS g cap xs w (holds_of_blockI hb ht) hg (by omega)) fun e w' he=> ?_
    obtain ⟨rfl,n,os,rfl⟩:=he
    obtain ⟨k1,k2,k3,k4,k5⟩:=grownBy_sortedI (w:=w) (g:=g) (n:=n) (os:=os) (WW xs).toArray
    have hlen:=QaG xs
    refine ⟨_,_,_,gh,rfl,⟨rfl,rfl⟩,⟨fun q e he=> ?_,fun q q' hq hq' hne=>absurd ((alq _ q hq).trans (alq _ q' hq').symm) hne,fun q hq=> ?_,fun q hq g' hg'=> ?_,fun g' hg'=>Nat.lt_of_lt_of_le (cx.nl g' hg') k4⟩,⟨[],rfl,rfl⟩,
      ⟨⟨k1,k2,k3,k4⟩,fun g' h1 h2=> ?_,fun g' h1=> .inl h1,fun q hq g' hg'=> ?_⟩,fun q _ _=>rfl⟩
    · rw [Qp] at he
      split at he
      · rename_i e0; subst e0; cases he
        refine .inr ⟨g,cap,_,[],hf,by rw[hc,hlen],heap_sortedI _ hb,by omega,hcap,by simpa [Sort.putCells] using hsz, ?_⟩
        show OwnL (Own .int _) [] (List.take ((WW xs).length*1) _) (WW xs)
        rw[Nat.mul_one,take_putCellsI cur (WW xs) (by have:cur.size=cap*1:=hsz; omega)]
        exact Qfb fun x hx=>hr x (QaS.1 hx)
      · cases he
    · rw[alq _ q hq]; exact cx.nd 0 ⟨_,rfl⟩
    · rw[alq _ q hq] at hg'; exact cx.no 0 ⟨_,rfl⟩ g' hg'
    · exact k5 g' h1 fun e0=>h2 0 ⟨_,rfl⟩ (by rw[hf]; cases e0; exact List.mem_cons_self ..)
    · rw[alq _ q hq] at hg'; exact .inr ⟨0,⟨_,rfl⟩,hg'⟩
end Go.Proofs.YtnakmhfjafecpaaGreat
namespace Go.Proofs.YtnakmhfjafecpaaGreat
structure TO {α:Type _} (lt:α→α→Bool):Prop where
  irr:∀x,lt x x=false
  tr:∀x y z,lt x y=true→lt y z=true→lt x z=true
  tot:∀x y,lt x y=true∨x=y∨lt y x=true
def XB {α:Type _}[DecidableEq α](lt:α→α→Bool)(x:α):List α→List α
  | []=>[x]
  | y :: l=>if lt y x=true then y :: XB lt x l else if y=x then y :: l else x :: y :: l
def Xa {α:Type _}[DecidableEq α]:List α→List α
  | []=>[]
  | [x]=>[x]
  | x :: y :: l=>if x=y then Xa (y :: l) else x :: Xa (y :: l)
def ofG {α:Type _}[DecidableEq α](lt:α→α→Bool)(l:List α):List α:=l.foldl (fun s x=>XB lt x s) []
section
variable {α:Type _}[DecidableEq α]{lt:α→α→Bool}{l a b:List α}{x y z:α}{k:Nat}
omit [DecidableEq α] in
theorem TO.ext (h:TO lt):∀{a b:List α},a.Pairwise (fun x y=>lt x y=true)→b.Pairwise (fun x y=>lt x y=true)→(∀x,x∈a↔x∈b)→a=b
  | [],[],_,_,_=>rfl
  | [],y :: b,_,_,hm=>by have:=(hm y).2 (List.mem_cons_self ..); cases this
  | x :: a,[],_,_,hm=>by have:=(hm x).1 (List.mem_cons_self ..); cases this
  | x :: a,y :: b,ha,hb,hm=>by
    obtain ⟨a1,a2⟩:=List.pairwise_cons.1 ha
    obtain ⟨b1,b2⟩:=List.pairwise_cons.1 hb
    have hxy:x=y:=by
      rcases List.mem_cons.1 ((hm x).1 (List.mem_cons_self ..)) with h1 | h1
      · exact h1
      · rcases List.mem_cons.1 ((hm y).2 (List.mem_cons_self ..)) with h2 | h2
        · exact h2.symm
        · have := h.tr _ _ _ (a1 _ h2) (b1 _ h1)
          rw[h.irr] at this; cases this
    subst hxy
    congr 1
    refine h.ext a2 b2 fun z=>⟨fun hz=> ?_,fun hz=> ?_⟩
    · rcases List.mem_cons.1 ((hm z).1 (List.mem_cons_of_mem _ hz)) with h1 | h1
      · subst h1; have:=a1 _ hz; rw[h.irr] at this; cases this
      · exact h1
    · rcases List.mem_cons.1 ((hm z).2 (List.mem_cons_of_mem _ hz)) with h1 | h1
      · subst h1; have:=b1 _ hz; rw[h.irr] at this; cases this
      · exact h1
theorem Wm:z∈XB lt x l↔z=x∨z∈l:=by
  induction l with
  | nil=>simp[XB]
  | cons y l ih=>
    unfold XB
    split
    · rw [List.mem_cons, ih, List.mem_cons]
      constructor
      · rintro (h | h | h)
        · exact .inr (.inl h)
        · exact .inl h
        · exact .inr (.inr h)
      · rintro (h | h | h)
        · exact .inr (.inl h)
        · exact .inl h
        · exact .inr (.inr h)
    · split
      · rename_i h; subst h
        rw[List.mem_cons]
        exact ⟨fun h=>h.elim .inl fun h=> .inr (.inr h),fun h=>h.elim .inl id⟩
      · rw[List.mem_cons]
theorem Qdg (h:TO lt)(hl:l.Pairwise (fun x y=>lt x y=true)):(XB lt x l).Pairwise (fun x y=>lt x y=true):=by
  induction l with
  | nil=>simp[XB]
  | cons y l ih=>
    obtain ⟨h1,h2⟩:=List.pairwise_cons.1 hl
    unfold XB
    split
    · rename_i hy
      refine List.pairwise_cons.2 ⟨fun z hz=> ?_,ih h2⟩
      rcases Wm.1 hz with rfl | hz
      · exact hy
      · exact h1 z hz
    · split
      · exact hl
      · rename_i hy hne
        have hxy:lt x y=true:=by
          rcases h.tot x y with h3 | h3 | h3
          · exact h3
          · exact absurd h3.symm hne
          · exact absurd h3 hy
        refine List.pairwise_cons.2 ⟨fun z hz=> ?_,hl⟩
        rcases List.mem_cons.1 hz with rfl | hz
        · exact hxy
        · exact h.tr _ _ _ hxy (h1 z hz)
theorem QcR (h:TO lt):∀(l s:List α),s.Pairwise (fun x y=>lt x y=true)→(l.foldl (fun s x=>XB lt x s) s).Pairwise (fun x y=>lt x y=true)∧∀z,z∈l.foldl (fun s x=>XB lt x s) s↔z∈s∨z∈l
  | [],s,hs=>⟨hs,fun z=>by simp⟩
  | x :: l,s,hs=>by
    obtain ⟨h1,h2⟩:=QcR h l _ (Qdg (x:=x) h hs)
    refine ⟨h1,fun z=> ?_⟩
    rw[List.foldl_cons,h2,Wm,List.mem_cons]
    constructor
    · rintro ((h | h) | h)
      · exact .inr (.inl h)
      · exact .inl h
      · exact .inr (.inr h)
    · rintro (h | h | h)
      · exact .inl (.inr h)
      · exact .inl (.inl h)
      · exact .inr h
theorem QbI (h:TO lt)(l:List α):(ofG lt l).Pairwise (fun x y=>lt x y=true):=(QcR h l [] List.Pairwise.nil).1
theorem HU (h:TO lt)(l:List α):z∈ofG lt l↔z∈l:=by
  have:=(QcR h l [] List.Pairwise.nil).2 z
  simpa [ofG] using this
theorem KJ:∀{l:List α},z∈Xa l↔z∈l
  | []=>Iff.rfl
  | [x]=>Iff.rfl
  | x :: y :: l=>by
    unfold Xa
    split
    · rename_i h; subst h
      rw[KJ]
      exact ⟨List.mem_cons_of_mem _,fun h=>(List.mem_cons.1 h).elim (fun h=>by rw[h]; exact List.mem_cons_self ..) id⟩
    · rw[List.mem_cons,KJ,List.mem_cons (l:=y :: l)]
theorem QbQ (h:TO lt):∀{l:List α},l.Pairwise (fun x y=>lt y x=false)→(Xa l).Pairwise (fun x y=>lt x y=true)
  | [],_=>List.Pairwise.nil
  | [x],_=>by simp[Xa]
  | x :: y :: l,hl=>by
    obtain ⟨h1,h2⟩:=List.pairwise_cons.1 hl
    unfold Xa
    split
    · exact QbQ h h2
    · rename_i hne
      refine List.pairwise_cons.2 ⟨fun z hz=> ?_,QbQ h h2⟩
      rw[KJ] at hz
      rcases h.tot x z with h3 | h3 | h3
      · exact h3
      · subst h3
        rcases List.mem_cons.1 hz with h4 | h4
        · exact absurd h4 hne
        · have h5 := h1 y (List.mem_cons_self ..)
          have h6:=(List.pairwise_cons.1 h2).1 x h4
          rcases h.tot x y with h7 | h7 | h7
          · rw[h6] at h7; cases h7
          · exact absurd h7 hne
          · rw[h5] at h7; cases h7
      · have:=h1 z hz; rw[this] at h3; cases h3
theorem QnU (h:TO lt){s l:List α}(hs:s.Pairwise (fun x y=>lt y x=false))(hm:∀z,z∈s↔z∈l):Xa s=ofG lt l:=
  h.ext (QbQ h hs) (QbI h l) fun z=>by rw[KJ,hm,HU h]
theorem Qka:∀{k:Nat} {l:List α},(∀j,j < k→∀y,l[j]? =some y→lt y x=true)→k≤l.length→(∀y,l[k]? =some y→lt y x=false∧y≠x)→XB lt x l=l.take k++x :: l.drop k
  | 0,[],_,_,_=>rfl
  | 0,y :: l,_,_,h2=>by
    obtain ⟨h3,h4⟩:=h2 y rfl
    unfold XB
    rw[if_neg (by rw[h3]; decide),if_neg h4]; rfl
  | k+1,[],_,hk,_=>by simp at hk
  | k+1,y :: l,h1,hk,h2=>by
    unfold XB
    rw[if_pos (h1 0 (by omega) y rfl),Qka (k:=k) (fun j hj z hz=>h1 (j+1) (by omega) z (by simpa using hz)) (by simpa using hk) (fun z hz=>h2 z (by simpa using hz))]
    rfl
theorem Qer:∀{k:Nat} {l:List α},(∀j,j < k→∀y,l[j]? =some y→lt y x=true)→l[k]? =some x→lt x x=false→XB lt x l=l
  | 0,[],_,h,_=>by simp at h
  | 0,y :: l,_,h,h3=>by
    simp only[List.getElem?_cons_zero,Option.some.injEq] at h
    subst h
    unfold XB
    rw[if_neg (by rw[h3]; decide),if_pos rfl]
  | k+1,[],_,h,_=>by simp at h
  | k+1,y :: l,h1,h,h3=>by
    unfold XB
    rw[if_pos (h1 0 (by omega) y rfl),Qer (k:=k) (fun j hj z hz=>h1 (j+1) (by omega) z (by simpa using hz)) (by simpa using h) h3]
end
def ltI (x y:Int):Bool:=decide (x < y)
theorem W4:TO ltI:=⟨fun x=>by simp[ltI],fun x y z h1 h2=>by simp only[ltI,decide_eq_true_eq] at*; omega,fun x y=>by simp only[ltI,decide_eq_true_eq]; omega⟩
theorem Qnh (l:List Int):Xa (WW l)=ofG ltI l:=QnU W4 ((HT l).imp fun h=>by simp only[ltI,decide_eq_false_iff_not]; omega) fun _=>QaS
end Go.Proofs.YtnakmhfjafecpaaGreat
namespace Go.Proofs.YtnakmhfjafecpaaGreat
open Go.RowKit
set_option maxRecDepth 100000
set_option maxHeartbeats 4000000
theorem ZP (n:Int)(low:Int)(high:Int):FC Tryz.prog 154 [(false,[dI n]),(false,[dI low]),(false,[dI high])] [] 0 (Zy (lB (decide (low≤n∧n≤high)))):=by
 refine QQ Tryz.func154 rfl rfl Tryz.ntmps154 fun O_ hO w0_ N0_ X_ h0_ f0_=> ?_
 refine AC.fact (Qs (x:= .tmp 0) (Qa rfl)) fun hi1=>AC.fact (Qs (x:= .tmp 1) (Qa rfl)) fun hi2=>AC.fact (Qs (x:= .tmp 2) (Qa rfl)) fun hi3=> ?_
 iterate 8 refine w_ ?_
 cases hb4:(decide (low≤n))
 ·have hb4':=of_decide_eq_false hb4
  iterate 6 refine w_ ?_
  refine Qe ?_
  subst hO
  have e5:(false:Bool)=(decide (low≤n∧n≤high)):=by
   (rw[Bool.eq_iff_iff]; simp; omega)
  exact Qg (Qd rfl (Qc rfl)) ((congrArg (fun z_=>lB z_) e5)) rfl
 ·have hb4':=of_decide_eq_true hb4
  iterate 6 refine w_ ?_
  refine Qe ?_
  subst hO
  have e6:(decide (n≤high):Bool)=(decide (low≤n∧n≤high)):=by
   (simp_all; done)
  exact Qg (Qd rfl (Qc rfl)) ((congrArg (fun z_=>lB z_) e6)) rfl
theorem XE (n:Int)(lo:Int)(hi:Int):FC Tryz.prog 149 [(false,[dI n]),(false,[dI lo]),(false,[dI hi])] [] 0 (Zy (lB (decide (lo≤n∧n≤hi)))):=by
 refine QQ Tryz.func149 rfl rfl Tryz.ntmps149 fun O_ hO w0_ N0_ X_ h0_ f0_=> ?_
 refine AC.fact (Qs (x:= .tmp 0) (Qa rfl)) fun hi1=>AC.fact (Qs (x:= .tmp 1) (Qa rfl)) fun hi2=>AC.fact (Qs (x:= .tmp 2) (Qa rfl)) fun hi3=> ?_
 iterate 8 refine w_ ?_
 cases hb4:(decide (lo≤n))
 ·have hb4':=of_decide_eq_false hb4
  iterate 6 refine w_ ?_
  refine Qe ?_
  subst hO
  have e5:(false:Bool)=(decide (lo≤n∧n≤hi)):=by
   (rw[Bool.eq_iff_iff]; simp; omega)
  exact Qg (Qd rfl (Qc rfl)) ((congrArg (fun z_=>lB z_) e5)) rfl
 ·have hb4':=of_decide_eq_true hb4
  iterate 6 refine w_ ?_
  refine Qe ?_
  subst hO
  have e6:(decide (n≤hi):Bool)=(decide (lo≤n∧n≤hi)):=by
   (simp_all; done)
  exact Qg (Qd rfl (Qc rfl)) ((congrArg (fun z_=>lB z_) e6)) rfl
def QqW (b:Int)(t:Yp):Yp:=(t.1.map fun x=>x+b,t.2.map fun x=>x+b)
end Go.Proofs.YtnakmhfjafecpaaGreat
namespace Go.Proofs.YtnakmhfjafecpaaGreat
open Go.RowKit
set_option maxRecDepth 100000
set_option maxHeartbeats 4000000
theorem HO {p:Prop}[Decidable p]{w:World}{e:Ending}{w':World}(h:RetB p w e w'):RetB (decide p=true) w e w':=by
  obtain ⟨b,h1,h2,h3⟩:=h
  exact ⟨b,h1,by rw[h2,decide_eq_true_eq],h3⟩
def Qqw (ts:List Yp)(a b:Nat)(p:Int):List Yp:=(ts.modify a fun t=>(t.1,t.2++[p])).modify b fun t=>(t.1++[p],t.2)
def X3 (b:Bool):ByteArray:=⟨#[if b then 49 else 48]⟩
def Qah (s:WY)(o:Vr):WY:=((s.1.1+1,Qqw s.1.2 o.1.toNat o.2.1.toNat s.1.1),s.2.1,s.2.2.1,s.2.2.2++X3 o.2.2)
theorem QaF (b:UInt8):(⟨#[b]⟩:ByteArray).size=1:=rfl
theorem Qgh (b:Bool):FC Tryz.prog 229 [(false,[dB b])] [] 0 (Zy (lf (.dat .u8 (if b then 49 else 48)))):=by
 refine QQ Tryz.func229 rfl rfl Tryz.ntmps229 fun O_ hO w0_ N0_ X_ h0_ f0_=> ?_
 refine w_ ?_
 refine lc (Y6 (QW 0 rfl) rfl) ?_
 iterate 5 refine w_ ?_
 cases hb1:(b)
 ·iterate 3 refine w_ ?_
  refine lc (Y6 (QW 48 rfl) rfl) ?_
  refine w_ ?_
  refine Qe ?_
  subst hO
  have e2:(48:UInt8)=(if b then 49 else 48):=by
   simp_all
  exact Qg (Qd rfl (Qc rfl)) ((congrArg (fun z_=>lf (.dat .u8 z_)) e2)) rfl
 ·iterate 2 refine w_ ?_
  refine lc (Y6 (QW 49 rfl) rfl) ?_
  refine w_ ?_
  refine Qe ?_
  subst hO
  have e3:(49:UInt8)=(if b then 49 else 48):=by
   simp_all
  exact Qg (Qd rfl (Qc rfl)) ((congrArg (fun z_=>lf (.dat .u8 z_)) e3)) rfl
def QeF:WY:=((0,[]),[],[],ByteArray.empty)
def Qpp (s:WY)[Decidable (StgOk s)]:WY×Bool:=if StgOk s then (s,true) else (QeF,false)
end Go.Proofs.YtnakmhfjafecpaaGreat
namespace Go.Proofs.YtnakmhfjafecpaaGreat
open Go.RowKit
set_option maxRecDepth 100000
set_option maxHeartbeats 4000000
def Ql4 (s:WY)(o:Vr):Prop:=StgOk s∧(0≤o.1∧o.1 < s.1.2.length)∧(0≤o.2.1∧o.2.1 < s.1.2.length)∧o.1≠o.2.1
instance (s:WY) (o:Vr) [Decidable (StgOk s)]:Decidable (Ql4 s o):=inferInstanceAs (Decidable (_∧_))
def QqZ (s:WY)(o:Vr)[Decidable (StgOk s)][Decidable (StgOk (Qah s o))]:WY×Bool:=if Ql4 s o then Qpp (Qah s o) else (QeF,false)
def QqX (s:WY)(o:Vr)[Decidable (StgOk s)][Decidable (StgOk (Qah s o))]:WY×Bool:=if Ql4 s o then (Qah s o,decide (StgOk (Qah s o))) else (QeF,false)
section
variable {s:WY}{o:Vr}[Decidable (StgOk s)][Decidable (StgOk (Qah s o))]
end
end Go.Proofs.YtnakmhfjafecpaaGreat
namespace Go.Proofs.YtnakmhfjafecpaaGreat
open Go.RowKit
set_option maxRecDepth 100000
set_option maxHeartbeats 4000000
section
variable {α:Type _}(f:α→Int→α×Int)
def QN:List α→Int→List α×Int
  | [],k=>([],k)
  | x :: xs,k=>((f x k).1 :: (QN xs (f x k).2).1,(QN xs (f x k).2).2)
theorem Ys (xs:List α)(k:Int):(QN f xs k).1.length=xs.length:=by
  induction xs generalizing k with
  | nil=>rfl
  | cons x xs ih=>simp[QN,ih]
theorem QaH (xs ys:List α)(k:Int):QN f (xs++ys) k=((QN f xs k).1++(QN f ys (QN f xs k).2).1,(QN f ys (QN f xs k).2).2):=by
  induction xs generalizing k with
  | nil=>rfl
  | cons x xs ih=>simp[QN,ih]
def mkA (a:List α)(k:Int)(i:Nat):List α:=(QN f (a.take i) k).1++a.drop i
def mkC (a:List α)(k:Int)(i:Nat):Int:=(QN f (a.take i) k).2
theorem J8 (a:List α)(k:Int)(i:Nat):(mkA f a k i).length=a.length:=by
  simp[mkA,Ys]; omega
theorem Qjj (a:List α)(k:Int):mkA f a k 0=a:=by simp[mkA,QN]
theorem Qa8 (a:List α)(k:Int):mkC f a k 0=k:=by simp[mkC,QN]
theorem QbG {a:List α}{k:Int}{i:Nat}(h:a.length≤i):mkA f a k i=(QN f a k).1:=by simp[mkA,List.take_of_length_le h,List.drop_eq_nil_of_le h]
theorem VU {a:List α}{k:Int}{i:Nat}(h:a.length≤i):mkC f a k i=(QN f a k).2:=by simp[mkC,List.take_of_length_le h]
variable {f}
theorem Qng {a:List α}{k:Int}{i:Nat}{x:α}(h:a[i]? =some x):(mkA f a k i)[i]? =some x:=by
  have hi:=(List.getElem?_eq_some_iff.1 h).1
  have hl:(QN f (a.take i) k).1.length=i:=by simp[Ys]; omega
  unfold mkA
  rw[List.getElem?_append_right (by omega),hl,Nat.sub_self,List.getElem?_drop]
  exact h
theorem Ha {a:List α}{k:Int}{i:Nat}{x:α}(h:(mkA f a k i)[i]? =some x):a[i]? =some x:=by
  have hi:=(List.getElem?_eq_some_iff.1 h).1
  rw[J8] at hi
  have h2:=Qng (f:=f) (k:=k) (List.getElem?_eq_getElem hi)
  rw[h] at h2
  rw[List.getElem?_eq_getElem hi,← h2]
theorem Qcp {a:List α}{i:Nat}{x:α}(h:a[i]? =some x):a.take (i+1)=a.take i++[x]:=by
  obtain ⟨h1,h2⟩:=List.getElem?_eq_some_iff.1 h
  rw[List.take_succ_eq_append_getElem h1,h2]
theorem H8 {a:List α}{k:Int}{i:Nat}{x:α}(h:a[i]? =some x):mkC f a k (i+1)=(f x (mkC f a k i)).2:=by
  unfold mkC
  rw[Qcp h,QaH]
  rfl
theorem H2 {a:List α}{k:Int}{i:Nat}{x:α}(h:a[i]? =some x):(mkA f a k i).set i (f x (mkC f a k i)).1=mkA f a k (i+1):=by
  obtain ⟨h1,h2⟩:=List.getElem?_eq_some_iff.1 h
  have hl:(QN f (a.take i) k).1.length=i:=by simp[Ys]; omega
  unfold mkA mkC
  rw[Qcp h,QaH,List.set_append_right _ _ (by omega),hl,Nat.sub_self,List.drop_eq_getElem_cons h1]
  simp only[List.set_cons_zero,QN,List.append_assoc]
  rfl
theorem Hp (c:α→Nat)(hc:∀x k,(f x k).2=k+c x)(a:List α)(k:Int):(QN f a k).2=k+((a.map c).sum:Nat):=by
  induction a generalizing k with
  | nil=>simp[QN]
  | cons x xs ih=>simp only[QN,ih,hc,List.map_cons,List.sum_cons]; omega
theorem QeI (c:α→Nat)(hc:∀x k,(f x k).2=k+c x)(a:List α)(k:Int)(i:Nat):k≤mkC f a k i∧mkC f a k i≤k+((a.map c).sum:Nat):=by
  unfold mkC
  rw[Hp c hc]
  have:((a.take i).map c).sum≤(a.map c).sum:=by
    conv=>rhs; rw[← List.take_append_drop i a,List.map_append,List.sum_append]
    omega
  omega
theorem QlR {a:List α}{k:Int}{i:Nat}{x:α}(h:a[i]? =some x):(QN f a k).1[i]? =some (f x (mkC f a k i)).1:=by
  have h1:=H2 (f:=f) (k:=k) h
  have hi:=(List.getElem?_eq_some_iff.1 h).1
  have hl:(QN f (a.take i) k).1.length=i:=by simp[Ys]; omega
  conv=>lhs; rw[← List.take_append_drop i a,QaH]
  simp only
  rw[List.getElem?_append_right (by omega),hl,Nat.sub_self,List.drop_eq_getElem_cons hi]
  obtain ⟨_,h2⟩:=List.getElem?_eq_some_iff.1 h
  simp[QN,mkC,h2]
end
@[reducible] def fI:Int→Int→Int×Int:=fun _ k=>(k,k+1)
theorem Wo {α:Type _}{f:α→Int→α×Int}{a l:List α}{k:Int}{i:Nat}{x:α}(hm:a=(QN f l k).1)(h:a[i]? =some x):∃y,l[i]? =some y∧x=(f y (mkC f l k i)).1:=by
  subst hm
  have hi:=(List.getElem?_eq_some_iff.1 h).1
  rw[Ys] at hi
  have h1:=List.getElem?_eq_getElem hi
  rw[QlR h1] at h
  exact ⟨_,h1,(Option.some.inj h).symm⟩
@[reducible] def fL:Int×Bool→Int→(Int×Bool)×Int:=fun _ k=>((k,decide ((k+1) % 3=0)),k+2)
theorem Qjh {α:Type _}(a:List α):(a.map fun _=>2).sum=2*a.length:=by
  induction a with
  | nil=>rfl
  | cons x xs ih=>simp[ih]; omega
end Go.Proofs.YtnakmhfjafecpaaGreat
namespace Go.Proofs.YtnakmhfjafecpaaGreat
open Go.RowKit
set_option maxRecDepth 100000
set_option maxHeartbeats 4000000
@[reducible] def fT:List Int×List Int→Int→(List Int×List Int)×Int:=fun t k=>(((QN fI t.1 k).1,(QN fI t.2 (QN fI t.1 k).2).1),(QN fI t.2 (QN fI t.1 k).2).2)
def cT (t:List Int×List Int):Nat:=t.1.length+t.2.length
def QqP (a:List (List Int×List Int)):Nat:=(a.map cT).sum
end Go.Proofs.YtnakmhfjafecpaaGreat
namespace Go.Proofs.YtnakmhfjafecpaaGreat
open Go.RowKit
set_option maxRecDepth 100000
set_option maxHeartbeats 4000000
def dg (k:Int):Nat→ByteArray
  | 0=>(⟨#[]⟩:ByteArray)
  | j+1=>(⟨#[UInt8.ofNat ((48+(k / 10 ^ j) % 10):Int).toNat]⟩:ByteArray)++dg k j
theorem Hx (k:Int)(j:Nat):(dg k j).size=j:=by
  induction j with
  | zero=>rfl
  | succ j ih=>rw[dg,ByteArray.size_append,ih]; show 1+j=_; omega
def mt (k:Int):Nat→Nat→ByteArray
  | 0,j=>dg k j
  | n+1,j=>if k / 10 ^ j≤0 then dg k j else mt k n (j+1)
def XI (k:Int):ByteArray:=if k≤0 then (⟨#[109,48]⟩:ByteArray) else (⟨#[109]⟩:ByteArray)++mt k 20 0
theorem Qqi (k:Int)(j:Nat):k / 10 ^ j / 10=k / 10 ^ (j+1):=by
  rw[Int.pow_succ,Int.ediv_ediv_of_nonneg (Int.pow_nonneg (by decide))]
theorem Qnw {k:Int}(h:k≤9223372036854775807)(h0:0≤k):k / 10 ^ 20=0:=Int.ediv_eq_zero_of_lt h0 (by omega)
theorem Qno {k:Int}{n j:Nat}(h:k / 10 ^ j≤0):mt k n j=dg k j:=by
  cases n with
  | zero=>rfl
  | succ n=>rw[mt,if_pos h]
theorem QoF {k:Int}(h0:0≤k)(j:Nat):0≤k / 10 ^ j∧k / 10 ^ j≤k:=⟨Int.ediv_nonneg h0 (Int.pow_nonneg (by decide)),Int.ediv_le_self _ h0⟩
theorem XF (k:Int):FC Tryz.prog 121 [(false,[dI k])] [] 0 (Zy (lf (dS (XI k)))):=by
 refine QQ Tryz.func121 rfl rfl Tryz.ntmps121 fun O_ hO w0_ N0_ X_ h0_ f0_=> ?_
 refine AC.fact (Qs (x:= .tmp 0) (Qa rfl)) fun hi1=> ?_
 iterate 8 refine w_ ?_
 cases hb2:(decide (k≤0))
 ·have hb2':=of_decide_eq_false hb2
  iterate 7 refine w_ ?_
  refine Qy (fun m_ s_=>∃(j:Nat),j≤20∧m_=20 - j∧(mt k (20 - j) j=mt k 20 0)∧s_=⟨[(0,lI (k / 10 ^ j)),(2,lf (dS (⟨#[]⟩:ByteArray))),(3,lf (dS (dg k j)))],[]⟩) ⟨0,Nat.zero_le _,rfl,rfl,rfl⟩ ?_ ?_
  · exact Wk.of [] rfl ⟨(show some (lI k)=some (lI (k / 10 ^ 0)) from congrArg (fun z_=>some (lI z_)) (by simp)),rfl,(show some (lf (dS (⟨#[]⟩:ByteArray)))=some (lf (dS (dg k 0))) from congrArg (fun z_=>some (lf (dS z_))) (rfl)),trivial⟩ trivial rfl rfl
  rintro m_ s_ ⟨j,hk5,hm6,hf,rfl⟩
  have hdn:=QoF (k:=k) (by omega) j
  have hds:=Hx k j
  have hj20:j=20→k / 10 ^ j=0:=fun h=>by subst h; exact Qnw (by omega) (by omega)
  iterate 5 refine w_ ?_
  cases hb7:(decide (0 < (k / 10 ^ j)))
  ·have hb7':=of_decide_eq_false hb7
   refine w_ ?_
   refine QA ?_
   refine (?_:AC _ _ _ _ _)
   iterate 2 refine w_ ?_
   refine lc (X9 (Evl.str rfl) (Qa rfl) rfl (by first | (simp only[QaF]; omega) | (rw[Hx]; simp only[QaF]; omega) | (rw[Hx]; show 1+_≤_; omega))) ?_
   iterate 2 refine w_ ?_
   refine Qe ?_
   subst hO
   have e8:((⟨#[109]⟩:ByteArray)++(dg k j):ByteArray)=(XI k):=by
    (rw[XI,if_neg (by omega),← hf,Qno (by omega)])
   exact Qg (Qd rfl (Qc rfl)) ((congrArg (fun z_=>lf (dS z_)) e8)) rfl
  ·have hb7':=of_decide_eq_true hb7
   iterate 5 refine w_ ?_
   refine lc (WV (Qa rfl) (QE rfl) rfl (by omega) (by omega)) ?_
   refine w_ ?_
   refine lc (Qd0 (Qa rfl) QdP VX (by omega) (by omega) rfl)<|lc (Qk 0 (e:= .u8) Zc ZA Qco rfl ⟨_,_,rfl,(Qb rfl),rfl⟩ (List.all_eq_true.1 rfl) ⟨_,_,_,_,rfl,⟨rfl,rfl⟩,⟨rfl,rfl⟩,rfl⟩ (by decide) rfl rfl (Fresh.of rfl) (nlr rfl))<|lc (ZS (ys:=[UInt8.ofNat (48+((k / 10 ^ j) % 10)).toNat]) (Xd (Qa rfl) rfl) Zc VX Zd rfl) ?_
   refine w_ ?_
   refine lc (X9 (Qa rfl) (Qa rfl) rfl (by first | (simp only[QaF]; omega) | (rw[Hx]; simp only[QaF]; omega) | (rw[Hx]; show 1+_≤_; omega))) ?_
   iterate 4 refine w_ ?_
   refine lc (QbZ (Qa rfl) (QE rfl) rfl (by omega) (by omega)) ?_
   refine w_ ?_
   refine Qj<|QS ⟨j+1,by omega,rfl,by rw[← hf,show 20 - j=(20 - (j+1))+1 by omega,mt,if_neg (by omega)],rfl⟩ (by omega) ?_
   exact Wk.of [] rfl ⟨(show some (lI ((k / 10 ^ j) / 10))=some (lI (k / 10 ^ (j+1))) from congrArg (fun z_=>some (lI z_)) (Qqi k j)),rfl,(show some (lf (dS ((⟨#[UInt8.ofNat (48+((k / 10 ^ j) % 10)).toNat]⟩:ByteArray)++(dg k j))))=some (lf (dS (dg k (j+1)))) from congrArg (fun z_=>some (lf (dS z_))) (rfl)),trivial⟩ trivial rfl rfl
 ·have hb2':=of_decide_eq_true hb2
  iterate 4 refine w_ ?_
  refine Qe ?_
  subst hO
  have e11:((⟨#[109,48]⟩:ByteArray):ByteArray)=(XI k):=by
   (rw[XI,if_pos (by omega)]; done)
  exact Qg (Qd rfl (Qc rfl)) ((congrArg (fun z_=>lf (dS z_)) e11)) rfl
end Go.Proofs.YtnakmhfjafecpaaGreat
namespace Go.Proofs.YtnakmhfjafecpaaGreat
open Go.RowKit
set_option maxRecDepth 100000
set_option maxHeartbeats 4000000
@[reducible] def fS:ByteArray×Int→Int→(ByteArray×Int)×Int:=fun _ k=>((XI k,k+1),k+2)
theorem QpR:∀(x:ByteArray×Int) (k:Int),(fS x k).2=k+((fun _=>2:ByteArray×Int→Nat) x:Nat):=fun _ _=>rfl
theorem Ql2 (a:List (ByteArray×Int))(k:Int)(i:Nat):k≤mkC fS a k i∧mkC fS a k i≤k+2*a.length:=by
  have:=QeI _ QpR a k i
  rw[Qjh] at this
  omega
theorem Qgq {l:List (ByteArray×Int)}{k:Int}{i:Nat}(h:i < l.length):mkC fS l k i+1+1=mkC fS l k (i+1):=by rw[H8 (List.getElem?_eq_getElem h)]; simp only[fS]; omega
theorem Jj (a:List (ByteArray×Int))(k:Int)(hk:0≤k∧k+2*a.length≤1000000000):FC Tryz.prog 63 [(false,[.ref 0]),(false,[dI k])] [(0,some (.arr 145 (.pr .str .int) a))] 1 (Is (lI ((QN fS a k).2)) [(0,some (.arr 145 (.pr .str .int) ((QN fS a k).1)))]):=by
 refine QQ Tryz.func63 rfl rfl Tryz.ntmps63 fun O_ hO w0_ N0_ X_ h0_ f0_=> ?_
 refine AC.fact (Qs (x:= .tmp 1) (Qa rfl)) fun hi1=> ?_
 iterate 8 refine w_ ?_
 refine Qy (fun m_ s_=>∃(i:Nat),i≤a.length∧m_=a.length - i∧s_=⟨[(0,lR 0),(1,lI (mkC fS a k i)),(4,lI 0),(5,lI (i:Int))],[(0,some (.arr 145 (.pr .str .int) (mkA fS a k i)))]⟩) ⟨0,Nat.zero_le _,rfl,rfl⟩ ?_ ?_
 · exact Wk.of [(0,0)] rfl ⟨rfl,(show some (lI k)=some (lI (mkC fS a k 0)) from congrArg (fun z_=>some (lI z_)) (by rw[Qa8])),rfl,rfl,trivial⟩ ⟨(Qv (Qjj fS a k)),trivial⟩ rfl rfl
 rintro m_ s_ ⟨i,hk3,hm4,rfl⟩
 have hml:=J8 fS a k i
 have hmc:=Ql2 a k i
 iterate 7 refine w_ ?_
 cases hb5:(decide ((i:Int) < ((mkA fS a k i).length:Int)))
 ·have hb5':=of_decide_eq_false hb5
  refine w_ ?_
  refine QA ?_
  refine (?_:AC _ _ _ _ _)
  iterate 4 refine w_ ?_
  refine Qe ?_
  subst hO
  have e6:(mkC fS a k i:Int)=((QN fS a k).2):=by
   (rw[VU _ (by omega)]; done)
  exact Q2 _ _ [(0,0)] (Qd rfl (Qc rfl)) ((congrArg (fun z_=>lI z_) e6)) ⟨(Qv (by (rw[QbG _ (by omega)]; done))),trivial⟩ rfl rfl
 ·have hb5':=of_decide_eq_true hb5
  iterate 8 refine w_ ?_
  refine lc (Qh (XF (mkC fS a k i)) U4 ⟨_,_,rfl,(Qb rfl),rfl⟩ rfl rfl)<|lc (Qq (e:=(.pr .str .int)) (Qa rfl) rfl (Qa rfl) Yh Yj rfl (by omega) (by first | omega | (simp only[List.length_set]; omega))) ?_
  refine w_ ?_
  obtain ⟨x7,hx8⟩:∃z,(mkA fS a k i)[i]? =some z:=⟨_,List.getElem?_eq_getElem (by omega)⟩
  refine lc (Q5 (e:=(.pr .str .int)) (z':=(XI (mkC fS a k i),x7.2)) (Qa rfl) rfl hx8 rfl (Qb rfl) rfl Zx rfl rfl) ?_
  iterate 10 refine w_ ?_
  refine lc (Qq (e:=(.pr .str .int)) (Qa rfl) rfl (Qa rfl) Yh Yj rfl (by omega) (by first | omega | (simp only[List.length_set]; omega))) ?_
  refine w_ ?_
  refine lc (Q5 (e:=(.pr .str .int)) (z':=((XI (mkC fS a k i),x7.2).1,(mkC fS a k i)+1)) (Qa rfl) rfl (List.getElem?_set_self (by first | omega | (simp only[List.length_set]; omega))) rfl (Qb rfl) rfl QD rfl rfl) ?_
  iterate 5 refine w_ ?_
  refine Qj ?_
  refine (?_:AC _ _ _ _ _)
  iterate 4 refine w_ ?_
  refine Qj<|QS ⟨i+1,by omega,rfl,rfl⟩ (by omega) ?_
  exact Wk.of [(0,0)] rfl ⟨rfl,(show some (lI (((mkC fS a k i)+1)+1))=some (lI (mkC fS a k (i+1))) from congrArg (fun z_=>some (lI z_)) (Qgq (by omega))),rfl,rfl,trivial⟩ ⟨(Qv (by rw[List.set_set]; exact H2 (f:=fS) (Ha hx8))),trivial⟩ rfl rfl
theorem Jn (a:List (ByteArray×Int))(k:Int)(l:List (ByteArray×Int))(hm:a=(QN fS l k).1)(hk:0≤k∧k+2*a.length≤1000000000):FC Tryz.prog 101 [(false,[.dat (.sl 145 (.pr .str .int)) a]),(false,[dI k])] [] 0 (Zy (lI ((QN fS l k).2))):=by
 have hla:a.length=l.length:=by rw[hm,Ys]
 refine QQ Tryz.func101 rfl rfl Tryz.ntmps101 fun O_ hO w0_ N0_ X_ h0_ f0_=> ?_
 refine AC.fact (Qs (x:= .tmp 1) (Qa rfl)) fun hi1=> ?_
 iterate 8 refine w_ ?_
 refine Qy (fun m_ s_=>∃(i:Nat),i≤a.length∧m_=a.length - i∧s_=⟨[(0,lf (.dat (.sl 145 (.pr .str .int)) a)),(1,lI (mkC fS l k i)),(5,lI (i:Int))],[]⟩) ⟨0,Nat.zero_le _,rfl,rfl⟩ ?_ ?_
 · exact Wk.of [] rfl ⟨rfl,(show some (lI k)=some (lI (mkC fS l k 0)) from congrArg (fun z_=>some (lI z_)) (by rw[Qa8])),rfl,trivial⟩ trivial rfl rfl
 rintro m_ s_ ⟨i,hk3,hm4,rfl⟩
 have hmc:=Ql2 l k i
 iterate 4 refine w_ ?_
 refine AL.fact (QB (x:= .tmp 7) (Qa rfl)) fun hl5=> ?_
 iterate 3 refine w_ ?_
 cases hb6:(decide ((i:Int) < (a.length:Int)))
 ·have hb6':=of_decide_eq_false hb6
  refine w_ ?_
  refine QA ?_
  refine (?_:AC _ _ _ _ _)
  iterate 4 refine w_ ?_
  refine Qe ?_
  subst hO
  have e7:(mkC fS l k i:Int)=((QN fS l k).2):=by
   (rw[VU _ (by omega)]; done)
  exact Qg (Qd rfl (Qc rfl)) ((congrArg (fun z_=>lI z_) e7)) rfl
 ·have hb6':=of_decide_eq_true hb6
  iterate 5 refine w_ ?_
  obtain ⟨x8,hx9⟩:∃z,a[i]? =some z:=⟨_,List.getElem?_eq_getElem (by omega)⟩
  have hvx8:x8.1=XI (mkC fS l k i):=by obtain ⟨_,_,h⟩:=Wo hm hx9; rw[h]
  have hwx8:x8.2=mkC fS l k i+1:=by obtain ⟨_,_,h⟩:=Wo hm hx9; rw[h]
  refine dw [io 12 (lf (.dat (.sl 145 (.pr .str .int)) a)),io 13 (lI (i:Int)),io 14 (lf (.elt (.pr .str .int) x8 0)),io 15 (lf (.elt (.pr .str .int) x8 0)),io 16 (lf (dS x8.1)),io 17 (lI (mkC fS l k i)),io 18 (lf (dS (XI (mkC fS l k i)))),io 19 (lB (!decide (x8.1=(XI (mkC fS l k i)))))] [0,0,3,7,15,0,32,127] mixed rfl (by kernel_rfl) ⟨dxm rfl rfl,dxm rfl rfl,fun _ h_=>ac (Qm (h_.v rfl) (h_.v rfl) Yh Yj rfl (by omega) hx9) rfl,fun _ h_=>ac (Qa7 (h_.v rfl) Qk6 rfl) rfl,fun _ h_=>ac (Zv (h_.v rfl) Zx rfl rfl) rfl,dxm rfl rfl,fun _ h_=>ac (Qh (XF (mkC fS l k i)) U4 ⟨_,_,rfl,(h_.w rfl),rfl⟩ rfl rfl) rfl,fun _ h_=>ac (Jc (h_.v rfl) (h_.v rfl) rfl) rfl,⟨⟩⟩ ?_
  cases hb10:(!decide (x8.1=(XI (mkC fS l k i))))
  ·have hb10':(x8.1=(XI (mkC fS l k i))):=Ze hb10
   iterate 11 refine w_ ?_
   refine lc (Qm (Qa rfl) (Qa rfl) Yh Yj rfl (by omega) hx9) ?_
   iterate 2 refine w_ ?_
   refine AL.fact (Qs (x:= .tmp 26) (Qa rfl)) fun hi11=> ?_
   iterate 3 refine w_ ?_
   cases hb12:(!decide (x8.2=((mkC fS l k i)+1)))
   ·have hb12':(x8.2=((mkC fS l k i)+1)):=Ze hb12
    iterate 6 refine w_ ?_
    refine Qj ?_
    refine (?_:AC _ _ _ _ _)
    iterate 4 refine w_ ?_
    refine Qj<|QS ⟨i+1,by omega,rfl,rfl⟩ (by omega) ?_
    exact Wk.of [] rfl ⟨rfl,(show some (lI (((mkC fS l k i)+1)+1))=some (lI (mkC fS l k (i+1))) from congrArg (fun z_=>some (lI z_)) (Qgq (by omega))),rfl,trivial⟩ trivial rfl rfl
   ·have hb12':¬(x8.2=((mkC fS l k i)+1)):=Zp hb12
    iterate 4 refine w_ ?_
    refine Qe ?_
    subst hO
    have e14:((-1):Int)=((QN fS l k).2):=by
     (exfalso; omega)
    exact Qg (Qd rfl (Qc rfl)) ((congrArg (fun z_=>lI z_) e14)) rfl
  ·have hb10':¬(x8.1=(XI (mkC fS l k i))):=Zp hb10
   iterate 4 refine w_ ?_
   refine Qe ?_
   subst hO
   have e15:((-1):Int)=((QN fS l k).2):=by
    (exfalso; simp_all; done)
   exact Qg (Qd rfl (Qc rfl)) ((congrArg (fun z_=>lI z_) e15)) rfl
theorem Qio (l:List (ByteArray×Int))(k:Int):(QN fS l k).2=k+2*l.length:=by rw[Hp _ QpR,Qjh]; omega
def QqQ (s:WY)(k:Int):WY×Int:=(((s.1.1,(QN fT s.1.2 k).1),(QN fS s.2.1 (QN fT s.1.2 k).2).1,(QN fL s.2.2.1 (QN fS s.2.1 (QN fT s.1.2 k).2).2).1,s.2.2.2),(QN fL s.2.2.1 (QN fS s.2.1 (QN fT s.1.2 k).2).2).2)
end Go.Proofs.YtnakmhfjafecpaaGreat
