/- Abstract states: struct literals of types with maps; clearing the end of an own slice; an own slice cut short; keys that are structs. No program is named here. -/
import Derived.Test.YtjaadeknhofhpaaGreatAg
import Derived.Test.YtjaadeknhofhpaaGreatAe
import Derived.DeepKeys3
import Derived.Laws.Shifts
import Derived.Laws.BitsAllLaws
import Derived.Test.YtjaadeknhofhpaaGreatAf
import Derived.Test.YtjaadeknhofhpaaGreatAk
import Derived.Sort.EveryDepth
import Derived.Sort.OwnSortedInts
import Derived.Shelf.Sort.AssemblyIn
import Derived.Test.YtjaadeknhofhpaaGreatAi
set_option linter.unusedSimpArgs false
set_option linter.unusedVariables false
set_option linter.unusedSectionVars false
namespace Go.Proofs.YtjaadeknhofhpaaGreat
open Go.RowKit
section
variable {A:Amb}{P:Program}{s:St}{x y z:Operand}{d:Nat}{T T' ty:TypeId}{pos:String}{af:Array Edge}{g:Option (Nat×Bool)}
def QtI (P:Program)(T:TypeId)(offs:List (Nat×Nat))(zs:List Value):Prop:=
  ∃fs,P.underlying T=some (.struct fs)∧(∀w,(fs.mapM fun (f:Field)=>do pure (f.offset,← sizeOf f.type)).run P w= .ok offs.toArray w)∧zer P T=some (.agg zs.toArray)
theorem Qll (al:Nat→Prop)(gh:Gh)(w:World):∀zs:List Value,LVs al gh w (zs.map LV.val) zs
  | []=>rfl
  | z :: zs=>⟨z,zs,rfl,rfl,Qll al gh w zs⟩
theorem Qq7 {zs:List Value}{offs:List (Nat×Nat)}{parts:Array (Nat×Operand)}{css:List (Bool×List LV)}{ls:List LV}(hb:QtI P T offs zs)(hv:EvL A s (parts.toList.map (·.2)) css)(hok:∀c∈css,ZB s.tab c.2=true)
    (hf:QfJ offs (zs.map LV.val) ((parts.toList.map (·.1)).zip (css.map (·.2)))=some ls) (hn:Nat.blt d A.n=true):Does A P ⟨some d, .build T parts,ty,pos,af,g⟩ s (s.put d (ag ls)):=
  Qr rfl hn fun gh a w r=>by
    obtain ⟨fs,h1,h2,h3⟩:=hb
    have hvs:=hv.cms r
    have hlen:=hvs.len
    generalize hV:(parts.toList.map (·.2)).map a.eval=vs at*
    have hpl:parts.toList.length=vs.length:=by rw[← hV]; simp
    have hcells:∀(cs:List (Bool×List LV)) (vs:List Value),CmsR s.tab.al gh w cs vs→(∀c∈cs,ZB s.tab c.2=true)→∀(i:Nat) (c:Bool×List LV) (v:Value),cs[i]? =some c→vs[i]? =some v→∃us,v.cells=us.toArray∧LVs s.tab.al gh w c.2 us:=by
      intro cs
      induction cs with
      | nil=>intro vs _ _ i c v h; simp at h
      | cons c cs ih=>
        rintro vs ⟨v,vs',rfl,k1,k2⟩ hok i c' v' hc hv'
        cases i with
        | zero=>
          simp at hc hv'
          subst hc; subst hv'
          have hc:=hok c (aA ..)
          obtain ⟨b,ls⟩:=c
          exact CmR.cells k1 fun hb=>by
            subst hb
            obtain ⟨l,rfl,q1⟩:=k1
            simp only[ZB,cM] at hc
            obtain ⟨h3,h4⟩:=VS hc
            exact q1.oneCell h4 h3 fun q ⟨e,he⟩=>(r.cx.en q e he).oneCell
        | succ i=>exact ih vs' k2 (fun c hc=>hok c (aD _ hc)) i c' v' (by simpa using hc) (by simpa using hv')
    have hzl:((parts.toList.map (·.1)).zip (css.map (·.2))).length=vs.length:=by rw[List.length_zip,av,av]; omega
    obtain ⟨cur',k1,k2⟩:=QbL (al:=s.tab.al) (gh:=gh) (w:=w) (cur:=zs.toArray) hf hzl.symm (fun i p v hp hv'=>by
      have hi:=List.getElem?_zip_eq_some.1 hp
      have h5:=hi.2
      rw[bj] at h5
      obtain ⟨c',h6,h7⟩:=bE.1 h5
      rw[← h7]
      exact hcells css vs hvs hok i c' v h6 hv') (by simpa using Qll s.tab.al gh w zs)
    refine ⟨.agg cur', ?_,cur'.toList,by simp,k2⟩
    have hz:(((parts.toList.map (·.1)).zip (css.map (·.2))).map (·.1)).zip vs=(parts.map fun p=>(p.1,a.eval p.2)).toList:=by
      rw[List.map_fst_zip (by rw[av,av]; omega),cU,← hV,cG]
      generalize parts.toList=pl
      induction pl with
      | nil=>rfl
      | cons p ps ih=>simp[ih]
    rw[hz] at k1
    simp only[execOp,Instr.build,ax,Ud h3,aE,run_underlying h1,h2,Value.cells]
    rw[k1]
    simp
end
theorem QiI {A:Amb}{P:Program}{s:St}{fn:Func}(hr:fn.results= #[]):Res A P fn s (.tup []):=fun gh a w g=>by
  refine ⟨.tuple #[], ?_,[],rfl,rfl⟩
  rw[Uh,hr]; simp[Vq,db]
section
variable {A:Amb}{P:Program}{s:St}{x y z:Operand}{d:Nat}{T T' ty:TypeId}{pos:String}{af:Array Edge}{g:Option (Nat×Bool)}
variable {E:TypeId}{e:Ty}{xs:List e.Den}{q lo n:Nat}
theorem OwnL.takeW {w:World}(hf:e.flat=true):∀{xs:List e.Den} {fp:List Nat} {cs:List Value} (k:Nat),OwnL (Own e w) fp cs xs→OwnL (Own e w) [] (cs.take (k*e.wd)) (xs.take k)
  | [],_,_,k,h=>by rw[h.2]; simp[OwnL]
  | x :: xs,_,_,0,_=>by simp[OwnL]
  | x :: xs,_,_,k+1,⟨f1,f2,c1,c2,h1,h2,h3,h4⟩=>by
    have hl:=h3.len
    have hf1:=JY hf h3
    subst hf1
    rw[h2]
    refine ⟨[],[],c1,c2.take (k*e.wd),rfl, ?_,h3,OwnL.takeW hf k h4⟩
    rw[Nat.succ_mul,Nat.add_comm,← hl,List.take_length_add_append]
theorem Qd1 (t i:Nat)(hi:lk s.tm i=some (lf (.sub q e.wd 0 n)))(he:s.tab.ent q=some (.arr E e xs))(hn:n≤xs.length)(hf:e.flat=true)(hfr:Fresh s t)(hk0:A.k0≤t):
    Wk A s ⟨(i,lf (.ref t)) :: s.tm,(t,some (.arr E e (xs.take n))) :: (q,none) :: s.tab⟩:=fun a w r=>by
  obtain ⟨gh,r⟩:=r
  obtain ⟨v,h1,l,h2,h3⟩:=r.tm i _ hi
  simp only[aB,and_true] at h2
  subst h2
  obtain ⟨B,m,c,q1,q2⟩:=h3 ⟨_,he⟩
  have hO:Own (.sl E e) w (gh.f q) [gh.h q] xs:=r.cx.en q _ he
  have hv:v= .slice B n c:=by
    rw[q2]
    congr 1
    split
    · rfl
    · cases B with
      | none=>rfl
      | some b=>cases b; simp[Addr.add]
  have hO':Own (.sl E e) w (gh.f q) [v] (xs.take n):=by
    rcases hO with ⟨k1,k2,k3⟩ | ⟨b,cap,cur,fps,p2,p3,p4,p5,p6,p7,p8⟩
    · subst k3
      simp only[aB,and_true] at k2
      rw[q1] at k2
      simp only[Value.slice.injEq] at k2
      obtain ⟨rfl,rfl,rfl⟩:=k2
      have:n=0:=by simpa using hn
      subst this
      exact .inl ⟨k1,by rw[hv],by simp⟩
    · have hfp := p8.fp0 hf
      subst hfp
      simp only[aB,and_true] at p3
      rw[q1] at p3
      simp only[Value.slice.injEq] at p3
      obtain ⟨rfl,rfl,rfl⟩:=p3
      have hl:(xs.take n).length=n:=by rw[ab]; omega
      refine .inr ⟨b,c,cur,[],p2,by rw[hv,hl],p4,by rw[hl]; omega,p6,p7, ?_⟩
      rw[hl]
      have:=p8.takeW hf n
      rwa [List.take_take,cc (c6 _ hn)] at this
  have r2:=r.make t hfr hk0 [q] (fun q' h=>by rw[aM.1 h]; exact ⟨_,he⟩) (ZR w) (fun _ _ _=>rfl) hO' (r.cx.nd q ⟨_,he⟩) (fun g hg=> .inr ⟨q,aM.2 rfl,hg⟩)
  exact ⟨_,r2.know h1 (pv:=lf (.ref t)) ⟨_,rfl,fun _=>by simp⟩⟩
theorem QdD (z:Array Value)(n:Nat):Builtin.zeroCells z n=madeCells z (n*z.size):=rfl
theorem Qct {Tl E':TypeId}{zv:Value}(hx:Evl A s x (.sub q e.wd lo n))(he:s.tab.ent q=some (.arr E e xs))(hb:lo+n=xs.length)(hT:P.underlying Tl=some (.slice E'))(hz:zer P E'=some zv)(hzc:zv.cells.toList=e.zeros)(hzo:e.zeros.all (·.oneCell')=true)(hf:e.flat=true):
    Does A P ⟨none, .call ⟨.builtin .clear, #[x], #[Tl]⟩,ty,pos,af,g⟩ s ⟨s.tm,(q,some (.arr E e (xs.take lo++List.replicate n e.zero))) :: s.tab⟩:=fun a w K Q r hK=>by
  obtain ⟨gh,r⟩:=r
  have hO:Own (.sl E e) w (gh.f q) [gh.h q] xs:=r.cx.en q _ he
  have hO0:=hO
  obtain ⟨B,m,c,q1,q2⟩:=hx gh a w r ⟨_,he⟩
  have hzl:e.zeros.length=e.wd:=(Yo e w).len
  have hzs:zv.cells=e.zeros.toArray:=by rw[← hzc]
  rcases Nat.eq_zero_or_pos n with hn0 | hn0
  · subst hn0
    have hxs:xs.take lo++List.replicate 0 e.zero=xs:=by rw[aH (by omega)]; simp
    have e0:(execOp a.eval ⟨none, .call ⟨.builtin .clear, #[x], #[Tl]⟩,ty,pos,af,g⟩).run P w= .ok (.value (.tuple #[])) w:=by
      simp only[execOp,resolve,invoke,builtin,q2,ax,b6,aE,List.map_toArray,aW,List.map_nil]
      generalize (if c=lo then B else B.map (·.add (lo*e.wd)))=BB
      cases BB <;> simp[Builtin.clear_,run_underlying hT]
    unfold Oper.wp
    rw[e0,Oper.upon_value]
    refine hK _ _ ⟨gh,r.mod he (ZR w) (fun _ _ _=>rfl) ?_⟩
    rw[hxs]
    exact hO0
  · rcases hO with ⟨_, _, h⟩ | ⟨b, cap, cur, fps, p2, p3, p4, p5, p6, p7, p8⟩
    · subst h; simp at hb; omega
    have hfp:=p8.fp0 hf
    subst hfp
    simp only[aB,and_true] at p3
    rw[q1] at p3
    simp only[Value.slice.injEq] at p3
    obtain ⟨rfl,rfl,rfl⟩:=p3
    rw[if_neg (by omega)] at q2
    simp only[cX,Addr.add_lit,bT] at q2
    have hzz:(Builtin.zeroCells zv.cells n).toList=(List.replicate n e.zeros).flatten:=by
      have h2:=Qcy e.zeros n (by rw[hzl]; exact V4 e)
      rw[QdD,hzs,List.size_toArray,h2]
    have hfl:((List.replicate n e.zeros).flatten).length=n*e.wd:=by simp[hzl]
    have hwd:=c6 e.wd p5
    have hle:lo*e.wd+n*e.wd=xs.length*e.wd:=by rw[← hb,bD]
    have hst:=Hb (P:=P) (b:=b) (E:=E) ((List.replicate n e.zeros).flatten) (lo*e.wd) 0 w cur p4 (by rw[hfl,p7]; omega) (fun v hv=>by
      obtain ⟨l,hl,hv⟩:=List.mem_flatten.1 hv
      rw[cq hl] at hv
      exact ae.1 hzo v hv)
    rw[cW] at hst
    have e0:(execOp a.eval ⟨none, .call ⟨.builtin .clear, #[x], #[Tl]⟩,ty,pos,af,g⟩).run P w= .ok (.value (.tuple #[])) (VB w b (lo*e.wd) ((List.replicate n e.zeros).flatten)):=by
      obtain ⟨n,rfl⟩:∃k,n=k+1:=⟨n - 1,by omega⟩
      simp only[execOp,resolve,invoke,builtin,q2,ax,b6,aE,List.map_toArray,aW,List.map_nil]
      simp[Builtin.clear_,run_underlying hT,Ud hz,hzz,hst]
    unfold Oper.wp
    rw[e0,Oper.upon_value]
    obtain ⟨cur',m1,m2,m3⟩:=Kr b E (0,0) ((List.replicate n e.zeros).flatten) w (lo*e.wd) cur p4 (by rw[hfl,p7]; omega)
    refine hK _ _ ⟨gh,r.mod he (J5 w b _ _) (fun g0 _ hg0=>XR w b _ _ g0 fun h=>hg0 (by rw[p2,h]; simp)) ?_⟩
    have hl:(xs.take lo++List.replicate n e.zero).length=xs.length:=by simp; omega
    refine .inr ⟨b,c,cur',[],p2,by rw[q1,hl],m1,by omega,p6,by rw[m2]; exact p7, ?_⟩
    rw[hl]
    have hlist:cur'.toList.take (xs.length*e.wd)=(cur.toList.take (xs.length*e.wd)).take (lo*e.wd)++(List.replicate n e.zeros).flatten:=by
      have h9:=QhN (l:=cur.toList) (len:=xs.length*e.wd) (lo:=lo*e.wd) (cs:=(List.replicate n e.zeros).flatten) (by rw[hfl]; omega) (by simp; omega)
      rw[m3,h9,hfl,bk (by simp; omega),bt]
    rw[hlist]
    have keep:∀{cs:List Value} {zs:List e.Den},OwnL (Own e w) [] cs zs→OwnL (Own e (VB w b (lo*e.wd) ((List.replicate n e.zeros).flatten))) [] cs zs:=fun h=>h.mono fun f c x hf' ho=>ho.keep fun g hg=>absurd (hf' g hg) (by simp)
    exact (keep (p8.takeW hf lo)).append (OwnL.zeros e _ n)
end
end Go.Proofs.YtjaadeknhofhpaaGreat
namespace Go.Proofs.YtjaadeknhofhpaaGreat
open Go.RowKit
section
variable {A:Amb}{P:Program}{s:St}{x y:Operand}{d:Nat}{T T' ty:TypeId}{pos:String}{af:Array Edge}{g:Option (Nat×Bool)}
theorem Qip (op:BinOp)(hop:op= .and∨op= .or)(m n:Nat)(hm:m < 9223372036854775808)(hn:n < 9223372036854775808):bits op .i64 (m:Int) (n:Int)=((if op= .and then m &&& n else m ||| n:Nat):Int):=by
  have h1:(BitVec.ofInt 64 (m:Int)).toNat=m:=by rw[BitVec.ofInt_natCast,BitVec.toNat_ofNat]; exact cA (by omega)
  have h2:(BitVec.ofInt 64 (n:Int)).toNat=n:=by rw[BitVec.ofInt_natCast,BitVec.toNat_ofNat]; exact cA (by omega)
  rcases hop with rfl | rfl
  · have hx : m &&& n < 2 ^ 63 := Nat.and_lt_two_pow _ (by omega)
    show IntKind.i64.wrap ((BitVec.ofInt 64 (m:Int) &&& BitVec.ofInt 64 (n:Int)).toNat:Int)=_
    rw[BitVec.toNat_and,h1,h2,IntWalk.i64_in _ (by omega)]
    rfl
  · have hx : m ||| n < 2 ^ 63 := Nat.or_lt_two_pow (by omega) (by omega)
    show IntKind.i64.wrap ((BitVec.ofInt 64 (m:Int) ||| BitVec.ofInt 64 (n:Int)).toNat:Int)=_
    rw[BitVec.toNat_or,h1,h2,IntWalk.i64_in _ (by omega)]
    rfl
theorem QiJ {m n:Int}(hx:Evl A s x (dI m))(hy:Evl A s y (dI n))(hn:Nat.blt d A.n=true)(h0:0≤m)(h00:0≤n):Does A P ⟨some d, .binOp .and T x y T',ty,pos,af,g⟩ s (s.put d (lf (dI ((m.toNat &&& n.toNat:Nat):Int)))):=
  Qr rfl hn fun gh a w r=>by
    have h1:=hx.i r
    have h2:=hy.i r
    have k1:=(LVR.int (hx gh a w r)).2
    have k2:=(LVR.int (hy gh a w r)).2
    have hb:=Qip .and (.inl rfl) m.toNat n.toNat (by omega) (by omega)
    rw[cy h0,cy h00] at hb
    have hb:bits .and .i64 m n=((m.toNat &&& n.toNat:Nat):Int):=hb
    have h3:Op.intBits .and .i64 m n=pure (.int .i64 ((m.toNat &&& n.toNat:Nat):Int)):=by rw[← hb]; rfl
    have hx2:m.toNat &&& n.toNat≤m.toNat:=Nat.and_le_left
    refine ⟨.int .i64 ((m.toNat &&& n.toNat:Nat):Int), ?_,_,rfl,Y3 (by omega)⟩
    simp only[execOp,h1,h2,eqGuard_at_int,binOp,h3]
    simp
theorem QqE {m n:Int}(hx:Evl A s x (dI m))(hy:Evl A s y (dI n))(hn:Nat.blt d A.n=true)(h0:0≤m)(h00:0≤n):Does A P ⟨some d, .binOp .or T x y T',ty,pos,af,g⟩ s (s.put d (lf (dI ((m.toNat ||| n.toNat:Nat):Int)))):=
  Qr rfl hn fun gh a w r=>by
    have h1:=hx.i r
    have h2:=hy.i r
    have k1:=(LVR.int (hx gh a w r)).2
    have k2:=(LVR.int (hy gh a w r)).2
    have hb:=Qip .or (.inr rfl) m.toNat n.toNat (by omega) (by omega)
    rw[cy h0,cy h00] at hb
    have hb:bits .or .i64 m n=((m.toNat ||| n.toNat:Nat):Int):=hb
    have h3:Op.intBits .or .i64 m n=pure (.int .i64 ((m.toNat ||| n.toNat:Nat):Int)):=by rw[← hb]; rfl
    have hx2:m.toNat ||| n.toNat < 2 ^ 63:=Nat.or_lt_two_pow (by omega) (by omega)
    refine ⟨.int .i64 ((m.toNat ||| n.toNat:Nat):Int), ?_,_,rfl,Y3 (by omega)⟩
    simp only[execOp,h1,h2,eqGuard_at_int,binOp,h3]
    simp
theorem Qix {m n:Int}(hx:Evl A s x (dI m))(hy:Evl A s y (dI n))(hn:Nat.blt d A.n=true)(h0:0≤n∧n≤62)(hb: -9223372036854775808≤m*2 ^ n.toNat∧m*2 ^ n.toNat≤9223372036854775807):Does A P ⟨some d, .binOp .shl T x y T',ty,pos,af,g⟩ s (s.put d (lf (dI (m*2 ^ n.toNat)))):=
  Qr rfl hn fun gh a w r=>by
    have h1:=hx.i r
    have h2:=hy.i r
    have h3:Op.shift .shl .i64 m .i64 n=pure (.int .i64 (m*2 ^ n.toNat)):=by
      rw[shift_shl_any _ _ _ _ h0.1,show IntKind.i64.bits=64 from rfl,cc (by omega),IntWalk.i64_in _ (by omega)]
    refine ⟨.int .i64 (m*2 ^ n.toNat), ?_,_,rfl,Y3 hb⟩
    simp only[execOp,h1,h2,eqGuard_at_int,binOp,h3]
    simp
theorem Qh2 {m n:Int}(hx:Evl A s x (dI m))(hy:Evl A s y (dI n))(hn:Nat.blt d A.n=true)(h0:0≤n∧n≤62)(hm:0≤m):Does A P ⟨some d, .binOp .shr T x y T',ty,pos,af,g⟩ s (s.put d (lf (dI (m / 2 ^ n.toNat)))):=
  Qr rfl hn fun gh a w r=>by
    have h1:=hx.i r
    have h2:=hy.i r
    have k1:=(LVR.int (hx gh a w r)).2
    have h3:Op.shift .shr .i64 m .i64 n=pure (.int .i64 (m / 2 ^ n.toNat)):=by
      rw[shift_shr_any _ _ _ _ h0.1,show IntKind.i64.bits=64 from rfl,cc (by omega)]
    have h4:0≤m / 2 ^ n.toNat:=da hm (cP (by decide))
    have h5:m / 2 ^ n.toNat≤m:=Int.ediv_le_self _ hm
    refine ⟨.int .i64 (m / 2 ^ n.toNat), ?_,_,rfl,Y3 (by omega)⟩
    simp only[execOp,h1,h2,eqGuard_at_int,binOp,h3]
    simp
end
end Go.Proofs.YtjaadeknhofhpaaGreat
namespace Go.Proofs.YtjaadeknhofhpaaGreat
open Go.RowKit
theorem Qjl:EqT Tryz.prog 2 32 true (.pr .int (.pr .int .bool)):=EqT.struct Tryz.underlying32 (by kernel_rfl) (EqFs.cons (by decide) rfl QL (fun _=>rfl) (EqT.int Qah) (EqFs.cons (by decide) rfl QL (fun _=>rfl) (EqT.int Qah) (EqFs.one (by decide) rfl Uj (fun _=>rfl) (EqT.bool QfG))))
theorem QjY:(Tryz.prog.eqGuardType Tryz.prog.depth 32=false)∧2≤10000:=⟨by kernel_rfl,by decide⟩
theorem Qkg:EqT Tryz.prog 2 55 true (.pr .int .bool):=EqT.struct Tryz.underlying55 (by kernel_rfl) (EqFs.cons (by decide) rfl QL (fun _=>rfl) (EqT.int Qah) (EqFs.one (by decide) rfl Uj (fun _=>rfl) (EqT.bool QfG)))
theorem Qja:(Tryz.prog.eqGuardType Tryz.prog.depth 55=false)∧2≤10000:=⟨by kernel_rfl,by decide⟩
theorem Qps:EqT Tryz.prog 2 90 true (.pr .str .int):=EqT.struct Tryz.underlying90 (by kernel_rfl) (EqFs.cons (by decide) rfl Zg (fun _=>rfl) (EqT.str ZS) (EqFs.one (by decide) rfl QL (fun _=>rfl) (EqT.int Qah)))
theorem QnB:(Tryz.prog.eqGuardType Tryz.prog.depth 90=false)∧2≤10000:=⟨by kernel_rfl,by decide⟩
theorem Qlq:KeyL Tryz.prog 9 false .str:=KeyL.str ZS
theorem QsS:ZeroV Tryz.prog 3 false .int:=⟨_,Yu,rfl⟩
end Go.Proofs.YtjaadeknhofhpaaGreat
namespace Go.Proofs.YtjaadeknhofhpaaGreat
open Go.RowKit
def QdE (xs:List Int):List Int:=xs.mergeSort fun x y=>decide (x≤y)
theorem Qak (xs:List Int):(QdE xs).Perm xs:=List.mergeSort_perm ..
theorem Qmq (xs:List Int):(QdE xs).length=xs.length:=(Qak xs).length_eq
theorem Qmc {xs:List Int}{x:Int}:x∈QdE xs↔x∈xs:=(Qak xs).mem_iff
theorem QhA (xs:List Int):(QdE xs).Pairwise fun x y=>x≤y:=by
  have h:=List.pairwise_mergeSort (le:=fun x y:Int=>decide (x≤y)) (fun a b c h1 h2=>by simp only[aN] at*; omega) (fun a b=>by simp only[bR,aN]; omega) xs
  exact h.imp fun h=>by simpa using h
def Qts (P:Program)(f:FuncId):Prop:=∀(blk cap:Nat) (zs:List Int) (w:World),Sort.Holds (Value.int .i64) w blk 0 zs.toArray→blk < w.heap.size→zs.length < 4611686018427387904→
  Calls P f #[.slice (some ⟨blk,0,none⟩) zs.length cap] w fun e w'=>e= .returned (.tuple #[])∧∃n os,w'=Sort.grow (Sort.putRow (Value.int .i64) (Sort.ahead w n) blk 0 (QdE zs).toArray) os
def Qsk (P:Program)(f:FuncId):Prop:=∀w:World,Calls P f #[.slice none 0 0] w fun e w'=>e= .returned (.tuple #[])∧Nw w w'
end Go.Proofs.YtjaadeknhofhpaaGreat
namespace Go.Proofs.YtjaadeknhofhpaaGreat
structure TO {α:Type _} (lt:α→α→Bool):Prop where
  irr:∀x,lt x x=false
  tr:∀x y z,lt x y=true→lt y z=true→lt x z=true
  tot:∀x y,lt x y=true∨x=y∨lt y x=true
def Y1 {α:Type _}[DecidableEq α](lt:α→α→Bool)(x:α):List α→List α
  | []=>[x]
  | y :: l=>if lt y x=true then y :: Y1 lt x l else if y=x then y :: l else x :: y :: l
def KJ {α:Type _}[DecidableEq α]:List α→List α
  | []=>[]
  | [x]=>[x]
  | x :: y :: l=>if x=y then KJ (y :: l) else x :: KJ (y :: l)
def ofG {α:Type _}[DecidableEq α](lt:α→α→Bool)(l:List α):List α:=l.foldl (fun s x=>Y1 lt x s) []
section
variable {α:Type _}[DecidableEq α]{lt:α→α→Bool}{l a b:List α}{x y z:α}{k:Nat}
omit [DecidableEq α] in
theorem TO.ext (h:TO lt):∀{a b:List α},a.Pairwise (fun x y=>lt x y=true)→b.Pairwise (fun x y=>lt x y=true)→(∀x,x∈a↔x∈b)→a=b
  | [],[],_,_,_=>rfl
  | [],y :: b,_,_,hm=>by have:=(hm y).2 (aA ..); cases this
  | x :: a,[],_,_,hm=>by have:=(hm x).1 (aA ..); cases this
  | x :: a,y :: b,ha,hb,hm=>by
    obtain ⟨a1,a2⟩:=bg.1 ha
    obtain ⟨b1,b2⟩:=bg.1 hb
    have hxy:x=y:=by
      rcases aG.1 ((hm x).1 (aA ..)) with h1 | h1
      · exact h1
      · rcases aG.1 ((hm y).2 (aA ..)) with h2 | h2
        · exact h2.symm
        · have := h.tr _ _ _ (a1 _ h2) (b1 _ h1)
          rw[h.irr] at this; cases this
    subst hxy
    congr 1
    refine h.ext a2 b2 fun z=>⟨fun hz=> ?_,fun hz=> ?_⟩
    · rcases aG.1 ((hm z).1 (aD _ hz)) with h1 | h1
      · subst h1; have:=a1 _ hz; rw[h.irr] at this; cases this
      · exact h1
    · rcases aG.1 ((hm z).2 (aD _ hz)) with h1 | h1
      · subst h1; have:=b1 _ hz; rw[h.irr] at this; cases this
      · exact h1
theorem Un:z∈Y1 lt x l↔z=x∨z∈l:=by
  induction l with
  | nil=>simp[Y1]
  | cons y l ih=>
    unfold Y1
    split
    · rw [aG, ih, aG]
      constructor
      · rintro (h | h | h)
        · exact .inr (.inl h)
        · exact .inl h
        · exact .inr (.inr h)
      · rintro (h | h | h)
        · exact .inr (.inl h)
        · exact .inl h
        · exact .inr (.inr h)
    · split
      · rename_i h; subst h
        rw[aG]
        exact ⟨fun h=>h.elim .inl fun h=> .inr (.inr h),fun h=>h.elim .inl id⟩
      · rw[aG]
theorem Qiq (h:TO lt)(hl:l.Pairwise (fun x y=>lt x y=true)):(Y1 lt x l).Pairwise (fun x y=>lt x y=true):=by
  induction l with
  | nil=>simp[Y1]
  | cons y l ih=>
    obtain ⟨h1,h2⟩:=bg.1 hl
    unfold Y1
    split
    · rename_i hy
      refine bg.2 ⟨fun z hz=> ?_,ih h2⟩
      rcases Un.1 hz with rfl | hz
      · exact hy
      · exact h1 z hz
    · split
      · exact hl
      · rename_i hy hne
        have hxy:lt x y=true:=by
          rcases h.tot x y with h3 | h3 | h3
          · exact h3
          · exact absurd h3.symm hne
          · exact absurd h3 hy
        refine bg.2 ⟨fun z hz=> ?_,hl⟩
        rcases aG.1 hz with rfl | hz
        · exact hxy
        · exact h.tr _ _ _ hxy (h1 z hz)
theorem QeD (h:TO lt):∀(l s:List α),s.Pairwise (fun x y=>lt x y=true)→(l.foldl (fun s x=>Y1 lt x s) s).Pairwise (fun x y=>lt x y=true)∧∀z,z∈l.foldl (fun s x=>Y1 lt x s) s↔z∈s∨z∈l
  | [],s,hs=>⟨hs,fun z=>by simp⟩
  | x :: l,s,hs=>by
    obtain ⟨h1,h2⟩:=QeD h l _ (Qiq (x:=x) h hs)
    refine ⟨h1,fun z=> ?_⟩
    rw[bC,h2,Un,aG]
    constructor
    · rintro ((h | h) | h)
      · exact .inr (.inl h)
      · exact .inl h
      · exact .inr (.inr h)
    · rintro (h | h | h)
      · exact .inl (.inr h)
      · exact .inl (.inl h)
      · exact .inr h
theorem Qdd (h:TO lt)(l:List α):(ofG lt l).Pairwise (fun x y=>lt x y=true):=(QeD h l [] cu).1
theorem KW (h:TO lt)(l:List α):z∈ofG lt l↔z∈l:=by
  have:=(QeD h l [] cu).2 z
  simpa [ofG] using this
theorem QdN:Y1 lt x (ofG lt l)=ofG lt (l++[x]):=by unfold ofG; rw[cp]; rfl
theorem QbA:∀{l:List α},z∈KJ l↔z∈l
  | []=>Iff.rfl
  | [x]=>Iff.rfl
  | x :: y :: l=>by
    unfold KJ
    split
    · rename_i h; subst h
      rw[QbA]
      exact ⟨aD _,fun h=>(aG.1 h).elim (fun h=>by rw[h]; exact aA ..) id⟩
    · rw[aG,QbA,aG (l:=y :: l)]
theorem Qeo (h:TO lt):∀{l:List α},l.Pairwise (fun x y=>lt y x=false)→(KJ l).Pairwise (fun x y=>lt x y=true)
  | [],_=>cu
  | [x],_=>by simp[KJ]
  | x :: y :: l,hl=>by
    obtain ⟨h1,h2⟩:=bg.1 hl
    unfold KJ
    split
    · exact Qeo h h2
    · rename_i hne
      refine bg.2 ⟨fun z hz=> ?_,Qeo h h2⟩
      rw[QbA] at hz
      rcases h.tot x z with h3 | h3 | h3
      · exact h3
      · subst h3
        rcases aG.1 hz with h4 | h4
        · exact absurd h4 hne
        · have h5 := h1 y (aA ..)
          have h6:=(bg.1 h2).1 x h4
          rcases h.tot x y with h7 | h7 | h7
          · rw[h6] at h7; cases h7
          · exact absurd h7 hne
          · rw[h5] at h7; cases h7
      · have:=h1 z hz; rw[this] at h3; cases h3
theorem QpJ (h:TO lt){s l:List α}(hs:s.Pairwise (fun x y=>lt y x=false))(hm:∀z,z∈s↔z∈l):KJ s=ofG lt l:=
  h.ext (Qeo h hs) (Qdd h l) fun z=>by rw[QbA,hm,KW h]
theorem QgY:∀{k:Nat} {l:List α},(∀j,j < k→∀y,l[j]? =some y→lt y x=true)→k≤l.length→(∀y,l[k]? =some y→lt y x=false∧y≠x)→Y1 lt x l=l.take k++x :: l.drop k
  | 0,[],_,_,_=>rfl
  | 0,y :: l,_,_,h2=>by
    obtain ⟨h3,h4⟩:=h2 y rfl
    unfold Y1
    rw[if_neg (by rw[h3]; decide),if_neg h4]; rfl
  | k+1,[],_,hk,_=>by simp at hk
  | k+1,y :: l,h1,hk,h2=>by
    unfold Y1
    rw[if_pos (h1 0 (by omega) y rfl),QgY (k:=k) (fun j hj z hz=>h1 (j+1) (by omega) z (by simpa using hz)) (by simpa using hk) (fun z hz=>h2 z (by simpa using hz))]
    rfl
theorem Qcq:∀{k:Nat} {l:List α},(∀j,j < k→∀y,l[j]? =some y→lt y x=true)→l[k]? =some x→lt x x=false→Y1 lt x l=l
  | 0,[],_,h,_=>by simp at h
  | 0,y :: l,_,h,h3=>by
    simp only[bh,bd] at h
    subst h
    unfold Y1
    rw[if_neg (by rw[h3]; decide),if_pos rfl]
  | k+1,[],_,h,_=>by simp at h
  | k+1,y :: l,h1,h,h3=>by
    unfold Y1
    rw[if_pos (h1 0 (by omega) y rfl),Qcq (k:=k) (fun j hj z hz=>h1 (j+1) (by omega) z (by simpa using hz)) (by simpa using h) h3]
end
def ltI (x y:Int):Bool:=decide (x < y)
theorem JR:TO ltI:=⟨fun x=>by simp[ltI],fun x y z h1 h2=>by simp only[ltI,aN] at*; omega,fun x y=>by simp only[ltI,aN]; omega⟩
end Go.Proofs.YtjaadeknhofhpaaGreat
namespace Go.Proofs.YtjaadeknhofhpaaGreat
open Go.RowKit
set_option maxRecDepth 100000
set_option maxHeartbeats 4000000
theorem YP (n:Int)(low:Int)(high:Int):FC Tryz.prog 84 [(false,[dI n]),(false,[dI low]),(false,[dI high])] [] 0 (Yj (lB (decide (low≤n∧n≤high)))):=by
 refine QO Tryz.func84 rfl rfl Tryz.ntmps84 fun O_ hO w0_ N0_ X_ h0_ f0_=> ?_
 refine AC.fact (QC (x:= .tmp 0) (Qa rfl)) fun hi1=>AC.fact (QC (x:= .tmp 1) (Qa rfl)) fun hi2=>AC.fact (QC (x:= .tmp 2) (Qa rfl)) fun hi3=> ?_
 iterate 8 refine w_ ?_
 cases hb4:(decide (low≤n))
 have hb4':=a7 hb4
 iterate 7 refine w_ ?_
 subst hO
 have e5:(false:Bool)=(decide (low≤n∧n≤high)):=by
  (rw[bY]; simp; omega)
 exact Qi (Qg rfl (Qd rfl)) (by rw[← e5] <;> rfl) rfl
 have hb4':=a8 hb4
 iterate 7 refine w_ ?_
 subst hO
 have e6:(decide (n≤high):Bool)=(decide (low≤n∧n≤high)):=by
  (simp_all; done)
 exact Qi (Qg rfl (Qd rfl)) (by rw[e6] <;> rfl) rfl
theorem Xo (n:Int)(lo:Int)(hi:Int):FC Tryz.prog 174 [(false,[dI n]),(false,[dI lo]),(false,[dI hi])] [] 0 (Yj (lB (decide (lo≤n∧n≤hi)))):=by
 refine QO Tryz.func174 rfl rfl Tryz.ntmps174 fun O_ hO w0_ N0_ X_ h0_ f0_=> ?_
 refine AC.fact (QC (x:= .tmp 0) (Qa rfl)) fun hi1=>AC.fact (QC (x:= .tmp 1) (Qa rfl)) fun hi2=>AC.fact (QC (x:= .tmp 2) (Qa rfl)) fun hi3=> ?_
 iterate 8 refine w_ ?_
 cases hb4:(decide (lo≤n))
 have hb4':=a7 hb4
 iterate 7 refine w_ ?_
 subst hO
 have e5:(false:Bool)=(decide (lo≤n∧n≤hi)):=by
  (rw[bY]; simp; omega)
 exact Qi (Qg rfl (Qd rfl)) (by rw[← e5] <;> rfl) rfl
 have hb4':=a8 hb4
 iterate 7 refine w_ ?_
 subst hO
 have e6:(decide (n≤hi):Bool)=(decide (lo≤n∧n≤hi)):=by
  (simp_all; done)
 exact Qi (Qg rfl (Qd rfl)) (by rw[e6] <;> rfl) rfl
theorem Vk (l:List Int)(by_:Int)(hl:l.length≤2000000)(hb:∀x∈l,(-9223372036854775808≤x∧x≤9223372036854775807)→ -9223372036854775808≤x+by_∧x+by_≤9223372036854775807):FC Tryz.prog 341 [(false,[.dat Qs l]),(false,[dI by_])] [] 0 (Uz 3 .int (l.map fun x=>x+by_)):=by
 refine QO Tryz.func341 rfl rfl Tryz.ntmps341 fun O_ hO w0_ N0_ X_ h0_ f0_=> ?_
 refine AC.fact (QC (x:= .tmp 1) (Qa rfl)) fun hi1=> ?_
 iterate 4 refine w_ ?_
 refine lc (Qf 0 (e:= .int) QN QL Yu rfl rfl (ae.1 rfl) ⟨rfl,rfl⟩ (by decide) rfl rfl (Fresh.of rfl) (nlr rfl)) ?_
 iterate 5 refine w_ ?_
 refine AL.fact (Qo (x:= .tmp 9) (Qa rfl)) fun hl2=> ?_
 iterate 4 refine w_ ?_
 refine Qu (fun m_ s_=>∃(k:Nat),k≤l.length∧m_=l.length - k∧s_=⟨[(1,lI by_),(4,lf (.val (.slice none 0 0))),(5,lR 1),(9,lf (.dat Qs l)),(10,lI (l.length:Int)),(11,lI (k:Int))],[(1,some (.arr 3 .int ((l.take k).map fun x=>x+by_)))]⟩) ⟨0,aw _,rfl,rfl⟩ ?_ ?_
 exact wp [(1,0)] ⟨(Qp (by first | rfl | simp)),trivial⟩
 rintro m_ s_ ⟨k,hk3,hm4,rfl⟩
 iterate 4 refine w_ ?_
 cases hb5:(decide ((k:Int) < (l.length:Int)))
 have hb5':=a7 hb5
 iterate 8 refine w_ ?_
 subst hO
 refine Z3 (e:= .int) (xs:=((l.take k).map fun x=>x+by_)) (Qg rfl (Qd rfl)) rfl ?_
 rw[ZF (by omega)]
 have hb5':=a8 hb5
 iterate 5 refine w_ ?_
 obtain ⟨x6,hx7⟩:=gx l k
 have hbx:=hb x6 (ai hx7)
 refine lc (Qh (Qa rfl) (Qa rfl) QN QL rfl (by omega) hx7) ?_
 refine w_ ?_
 refine AL.fact (QC (x:= .tmp 14) (Qa rfl)) fun hi8=> ?_
 iterate 6 refine w_ ?_
 refine lc (Xb (Qa rfl) (Qa rfl) rfl (by first | omega | (have:=hbx (by omega); omega)))<|lc (Qf 2 (e:= .int) QN QL Yu rfl ⟨_,_,rfl,(Qb rfl),rfl⟩ (ae.1 rfl) ⟨_,_,_,_,rfl,⟨rfl,rfl⟩,⟨rfl,rfl⟩,rfl⟩ (by decide) rfl rfl (Fresh.of rfl) (nlr rfl))<|lc (QH 3 (Qa rfl) rfl (Qa rfl) rfl rfl QN Wd (by first | omega | (simp only[aa,av,ab,ah,aj]; omega) | (simp only[aa,ay,ab,ah,aj]; omega)) rfl (Fresh.of rfl) (nlr rfl)) ?_
 refine w_ ?_
 refine Qm ?_
 iterate 2 refine w_ ?_
 refine lc (Xb (Qa rfl) (Qv rfl) rfl (by first | omega | (have:=hbx (by omega); omega))) ?_
 refine w_ ?_
 refine Qm<|QV ⟨k+1,by omega,rfl,rfl⟩ (by omega) ?_
 exact wp [(1,3)] ⟨(Qp (by rw[Q0 hx7]; simp)),trivial⟩
theorem Qab (l:List Int)(hl:l.length≤2000000):FC Tryz.prog 268 [(false,[.dat Qs l])] [] 0 (Uz 3 .int l):=by
 refine QO Tryz.func268 rfl rfl Tryz.ntmps268 fun O_ hO w0_ N0_ X_ h0_ f0_=> ?_
 iterate 4 refine w_ ?_
 refine lc (Qf 0 (e:= .int) QN QL Yu rfl rfl (ae.1 rfl) ⟨rfl,rfl⟩ (by decide) rfl rfl (Fresh.of rfl) (nlr rfl)) ?_
 refine w_ ?_
 refine lc (Zp 1 (Qa rfl) rfl (Evl.rep (Qa rfl)) rfl QN Wd (by first | omega | (simp only[aa,av,ab,ah,aj]; omega) | (simp only[aa,ay,ab,ah,aj]; omega)) rfl (Fresh.of rfl) (nlr rfl)) ?_
 iterate 3 refine w_ ?_
 subst hO
 refine Z3 (e:= .int) (xs:=(([])++l)) (Qg rfl (Qd rfl)) rfl ?_
 rfl
theorem QlC {α:Type _}(f:α→Nat){xs:List α}{x:α}(h:x∈xs):f x≤(xs.map f).sum:=by
  induction xs with
  | nil=>cases h
  | cons y ys ih=>
    simp only[aW,List.sum_cons]
    rcases aG.1 h with rfl | h
    · omega
    · have:=ih h; omega
theorem Qhd {n:Xj}(hz:Ty.tot UD n≤2000000):n.2.length≤2000000:=by
  have:Ty.tot UD n=0+(n.2.length+(n.2.map (Ty.tot Zk)).sum):=rfl
  omega
theorem KF {s:QX}(hz:Ty.tot ZC s≤2000000):Ty.tot UD s.1≤2000000∧s.2.1.length≤2000000∧s.2.2.1.length≤2000000:=by
  have:Ty.tot ZC s=Ty.tot UD s.1+((s.2.1.length+(s.2.1.map (Ty.tot Y6)).sum)+((s.2.2.1.length+(s.2.2.1.map (Ty.tot Wj)).sum)+s.2.2.2.size)):=rfl
  omega
theorem Hv {n:Xj}(hz:Ty.tot UD n≤2000000):∀t∈n.2,t.1.length≤2000000∧t.2.length≤2000000:=fun t ht=>by
  have h1:Ty.tot UD n=0+(n.2.length+(n.2.map (Ty.tot Zk)).sum):=rfl
  have h2:=QlC (Ty.tot Zk) ht
  have h3:Ty.tot Zk t=(t.1.length+(t.1.map (Ty.tot .int)).sum)+(t.2.length+(t.2.map (Ty.tot .int)).sum):=rfl
  omega
theorem Jz (n:Int×(List (List Int×List Int)))(hz:Ty.tot UD n≤2000000):FC Tryz.prog 173 [(true,[dI n.1, .dat QZ n.2])] [] 0 (Is (ag [dI n.1, .ref 0]) [(0,some (.arr 198 QS n.2))]):=by
 have hm:=Qhd hz
 have hp:=Hv hz
 refine QO Tryz.func173 rfl rfl Tryz.ntmps173 fun O_ hO w0_ N0_ X_ h0_ f0_=> ?_
 refine AC.fact (QI (x:= .tmp 0) (i:=0) (Qb rfl) rfl) fun hi1=> ?_
 refine w_ ?_
 refine lc (Qy 0 (Qb rfl) rfl rfl (Fresh.of rfl) (nlr rfl))<|lc (Qj 1 Qii KS rfl rfl (Fresh.of rfl) (nlr rfl)) ?_
 iterate 4 refine w_ ?_
 refine lc (QA Qb3 ⟨_,_,rfl,(Qb rfl),rfl⟩ (ae.1 rfl) rfl rfl)<|lc (Qj 2 Qii KS rfl rfl (Fresh.of rfl) (nlr rfl))<|lc (Qc (Qa rfl) rfl (Qb rfl) rfl YD rfl) ?_
 iterate 5 refine w_ ?_
 refine AL.fact (Qo (x:= .tmp 10) (Qa rfl)) fun hl2=> ?_
 iterate 4 refine w_ ?_
 refine AC.wk (QF 3 (p:=2) (off:=1) 198 QS rfl rfl (Fresh.of rfl) (nlr rfl)) ?_
 refine Qu (fun m_ s_=>∃(k:Nat),k≤n.2.length∧m_=n.2.length - k∧s_=⟨[(2,lP 1 0),(3,lP 2 0),(10,lf (.dat QZ n.2)),(11,lI (n.2.length:Int)),(12,lI (k:Int))],[(1,some (.box 25 [dI 0, .val (.slice none 0 0)])),(2,some (.box 25 [dI n.1, .ref 4])),(4,some (.arr 198 QS (n.2.take k)))]⟩) ⟨0,aw _,rfl,rfl⟩ ?_ ?_
 exact wp [(1,1),(2,2),(4,3)] ⟨rfl,rfl,(Qp (by first | rfl | simp)),trivial⟩
 rintro m_ s_ ⟨k,hk3,hm4,rfl⟩
 iterate 4 refine w_ ?_
 cases hb5:(decide ((k:Int) < (n.2.length:Int)))
 have hb5':=a7 hb5
 iterate 5 refine w_ ?_
 refine lc (Qc (Qa rfl) rfl (Qb rfl) rfl YD rfl) ?_
 iterate 2 refine w_ ?_
 subst hO
 exact QD _ _ [(0,4)] (Qg rfl (QG rfl rfl YD rfl)) (rfl) ⟨(Qp (by rw[ZF (by omega)])),trivial⟩ rfl rfl
 have hb5':=a8 hb5
 iterate 5 refine w_ ?_
 obtain ⟨x6,hx7⟩:=gx n.2 k
 refine lc (Qh (Qa rfl) (Qa rfl) Zw Zn rfl (by omega) hx7) ?_
 refine w_ ?_
 refine lc (Qj 5 QS We rfl rfl (Fresh.of rfl) (nlr rfl))<|lc (Qc (Qa rfl) rfl (Qb rfl) rfl Zn rfl) ?_
 refine w_ ?_
 refine dv [io 16 (lP 2 1),io 17 (lR 4),io 18 (lP 5 0),io 19 (lf (.dat Qs x6.1)),⟨some 20,lR 6,[(6,some (.arr 3 .int x6.1))]⟩,io 21 (lP 5 1),io 22 (lf (.dat Qs x6.2)),⟨some 23,lR 7,[(7,some (.arr 3 .int x6.2))]⟩,io 24 (ag [.ref 6, .ref 7]),⟨some 25,lR 8,[(8,some (.arr 198 QS ([(x6.1,x6.2)]))),(6,none),(7,none)]⟩,⟨some 26,lR 9,[(9,some (.arr 198 QS ((n.2.take k)++([(x6.1,x6.2)])))),(4,none),(8,none)]⟩,io 27 (lP 2 1),⟨none,lf (.val undef),[(2,some (.box 25 [dI n.1, .ref 9]))]⟩] [0,1,0,4,12,0,32,124,252,508,1023,2047,4095] mixed rfl (by kernel_rfl) ⟨dxf Zz rfl rfl rfl,dxl Yf rfl rfl rfl rfl rfl,dxf Z0 rfl rfl rfl,dxl QU rfl rfl rfl rfl rfl,fun _ h_=>ac (YF 6 (Qab x6.1 (by have:=hp _ (ai ‹_›); omega)) Qe2 ⟨_,_,rfl,(h_.w rfl),rfl⟩ rfl (h_.fr 6 rfl) (nlr rfl)) rfl,dxf YV rfl rfl rfl,dxl QU rfl rfl rfl rfl rfl,fun _ h_=>ac (YF 7 (Qab x6.2 (by have:=hp _ (ai ‹_›); omega)) Qe2 ⟨_,_,rfl,(h_.w rfl),rfl⟩ rfl (h_.fr 7 rfl) (nlr rfl)) rfl,fun _ h_=>ac (QA HA ⟨_,_,rfl,(h_.w rfl),⟨_,_,rfl,(h_.w rfl),rfl⟩⟩ (ae.1 (by simp only[ZB,X7,aQ,b8]; rw[(h_.en 6 rfl),(h_.en 7 rfl)]; rfl)) rfl rfl) rfl,fun _ h_=>ac (Qf 8 (e:=QS) Zw Zn We rfl ⟨_,_,rfl,(h_.w rfl),rfl⟩ (ae.1 (by simp only[ZB,X7,aQ,b8]; rw[(h_.en 6 rfl),(h_.en 7 rfl)]; rfl)) ⟨_,_,_,_,rfl,⟨[.ref 6],[.ref 7],_,_,_,_,rfl,rfl,(.inl ⟨_,rfl,(h_.en 6 rfl),rfl⟩),(.inl ⟨_,rfl,(h_.en 7 rfl),rfl⟩),rfl⟩,⟨rfl,rfl⟩,rfl⟩ (by decide) rfl rfl (h_.fr 8 rfl) (nlr rfl)) rfl,fun _ h_=>ac (QH 9 (h_.v rfl) (h_.en 4 rfl) (h_.v rfl) (h_.en 8 rfl) rfl Zw HD (by first | omega | (simp only[aa,av,ab,ah,aj]; omega) | (simp only[aa,ay,ab,ah,aj]; omega)) rfl (h_.fr 9 rfl) (nlr rfl)) rfl,dxf Zz rfl rfl rfl,fun _ h_=>ac (Qc (h_.v rfl) (h_.en 2 rfl) (h_.w rfl) (by simp only[ZB,X7,aQ,b8]; rw[(h_.en 9 rfl)]; rfl) Yf rfl) rfl,⟨⟩⟩ ?_
 iterate 4 refine w_ ?_
 refine Qm<|QV ⟨k+1,by omega,rfl,rfl⟩ (by omega) ?_
 exact wp [(1,1),(2,2),(4,9)] ⟨rfl,rfl,(Qp (by rw[Q0 hx7])),trivial⟩
theorem Qad (s:(Int×(List (List Int×List Int)))×(List (ByteArray×Int))×(List (Int×Bool))×ByteArray)(hz:Ty.tot ZC s≤2000000):FC Tryz.prog 80 [(true,[dI s.1.1, .dat QZ s.1.2, .dat QJ s.2.1, .dat QR s.2.2.1,dS s.2.2.2])] [] 0 (Is (ag [dI s.1.1, .ref 0, .ref 1, .ref 2,dS s.2.2.2]) [(0,some (.arr 198 QS s.1.2)),(1,some (.arr 90 QY s.2.1)),(2,some (.arr 55 Q5 s.2.2.1))]):=by
 obtain ⟨hz1,hz2,hz3⟩:=KF hz
 refine QO Tryz.func80 rfl rfl Tryz.ntmps80 fun O_ hO w0_ N0_ X_ h0_ f0_=> ?_
 refine AC.fact (QI (x:= .tmp 0) (i:=0) (Qb rfl) rfl) fun hi1=> ?_
 refine w_ ?_
 refine lc (Qy 0 (Qb rfl) rfl rfl (Fresh.of rfl) (nlr rfl))<|lc (Qj 1 Xr ZE rfl rfl (Fresh.of rfl) (nlr rfl)) ?_
 refine w_ ?_
 refine dw [io 3 (lP 0 0),io 4 (ag [dI s.1.1, .dat QZ s.1.2]),⟨some 5,ag [dI s.1.1, .ref 2],[(2,some (.arr 198 QS s.1.2))]⟩,⟨some 6,lR 3,[(3,some (.arr 90 QY ([])))]⟩,io 7 (lP 0 2),io 8 (lf (.dat QJ s.2.1)),⟨some 9,lR 4,[(4,some (.arr 90 QY (([])++s.2.1))),(3,none)]⟩,⟨some 10,lR 5,[(5,some (.arr 55 Q5 ([])))]⟩,io 11 (lP 0 3),io 12 (lf (.dat QR s.2.2.1)),⟨some 13,lR 6,[(6,some (.arr 55 Q5 (([])++s.2.2.1))),(5,none)]⟩,io 14 (lP 0 4),io 15 (lf (dS s.2.2.2)),io 16 (ag [dI s.1.1, .ref 2, .ref 4, .ref 6,dS s.2.2.2]),⟨none,lf (.val undef),[(1,some (.box 29 [dI s.1.1, .ref 2, .ref 4, .ref 6,dS s.2.2.2]))]⟩] [0,1,3,0,0,16,63,0,0,256,1023,0,2048,8191,16383] mixed rfl (by kernel_rfl) ⟨dxf Z1 rfl rfl rfl,dxa YD rfl rfl rfl rfl,fun _ h_=>ac (Q8 2 (Jz s.1 hz1) Qd5 ⟨_,_,rfl,(h_.w rfl),rfl⟩ rfl rfl ⟨(h_.fr 2 rfl),trivial⟩ (nlr rfl)) rfl,fun _ h_=>ac (Qf 3 (e:=QY) YE YJ UZ rfl rfl (ae.1 rfl) ⟨rfl,rfl⟩ (by decide) rfl rfl (h_.fr 3 rfl) (nlr rfl)) rfl,dxf XH rfl rfl rfl,dxl Ub rfl rfl rfl rfl rfl,fun _ h_=>ac (Zp 4 (h_.v rfl) (h_.en 3 rfl) (Evl.rep (h_.v rfl)) rfl YE QaO (by simp only[aj]; omega) rfl (h_.fr 4 rfl) (nlr rfl)) rfl,fun _ h_=>ac (Qf 5 (e:=Q5) Yq ZO WF rfl rfl (ae.1 rfl) ⟨rfl,rfl⟩ (by decide) rfl rfl (h_.fr 5 rfl) (nlr rfl)) rfl,dxf XP rfl rfl rfl,dxl WK rfl rfl rfl rfl rfl,fun _ h_=>ac (Zp 6 (h_.v rfl) (h_.en 5 rfl) (Evl.rep (h_.v rfl)) rfl Yq QaU (by simp only[aj]; omega) rfl (h_.fr 6 rfl) (nlr rfl)) rfl,dxf XQ rfl rfl rfl,dxl Zg rfl rfl rfl rfl rfl,fun _ h_=>ac (QA YS ⟨_,_,rfl,(h_.w rfl),⟨_,_,rfl,(h_.w rfl),⟨_,_,rfl,(h_.w rfl),⟨_,_,rfl,(h_.w rfl),rfl⟩⟩⟩⟩ (ae.1 (by simp only[ZB,X7,aQ,b8]; rw[(h_.en 2 rfl),(h_.en 4 rfl),(h_.en 6 rfl)]; rfl)) rfl rfl) rfl,fun _ h_=>ac (Qc (h_.v rfl) (h_.en 1 rfl) (h_.w rfl) (by simp only[ZB,X7,aQ,b8]; rw[(h_.en 2 rfl),(h_.en 4 rfl),(h_.en 6 rfl)]; rfl) Qz rfl) rfl,⟨⟩⟩<|Q4 ?_
 subst hO
 exact QD _ _ [(0,2),(1,4),(2,6)] (Qg rfl (QG rfl rfl Qz rfl)) (rfl) ⟨rfl,(Qp (by rfl)),(Qp (by rfl)),trivial⟩ rfl rfl
def Qdv (b:Int)(t:QW):QW:=(t.1.map fun x=>x+b,t.2.map fun x=>x+b)
theorem Qbs (a:Int×(List (List Int×List Int)))(b:Int×(List (List Int×List Int)))(hz:Ty.tot UD a≤2000000)(hz2:Ty.tot UD b≤2000000)(hs: -9223372036854775808≤a.1+b.1∧a.1+b.1≤9223372036854775807)(hb:∀t∈b.2,(∀x∈t.1, -9223372036854775808≤x+a.1∧x+a.1≤9223372036854775807)∧∀x∈t.2, -9223372036854775808≤x+a.1∧x+a.1≤9223372036854775807):FC Tryz.prog 266 [(true,[dI a.1, .dat QZ a.2]),(true,[dI b.1, .dat QZ b.2])] [] 0 (Is (ag [dI (a.1+b.1), .ref 0]) [(0,some (.arr 198 QS (a.2++b.2.map (Qdv a.1))))]):=by
 have hm:=Qhd hz
 have hp:=Hv hz
 have hm2:=Qhd hz2
 have hp2:=Hv hz2
 refine QO Tryz.func266 rfl rfl Tryz.ntmps266 fun O_ hO w0_ N0_ X_ h0_ f0_=> ?_
 refine AC.fact (QI (x:= .tmp 0) (i:=0) (Qb rfl) rfl) fun hi1=>AC.fact (QI (x:= .tmp 1) (i:=0) (Qb rfl) rfl) fun hi2=> ?_
 refine w_ ?_
 refine lc (Qy 0 (Qb rfl) rfl rfl (Fresh.of rfl) (nlr rfl))<|lc (Qy 1 (Qb rfl) rfl rfl (Fresh.of rfl) (nlr rfl))<|lc (Qj 2 Qii KS rfl rfl (Fresh.of rfl) (nlr rfl)) ?_
 iterate 7 refine w_ ?_
 refine lc (QA Qb3 ⟨_,_,rfl,(Qb rfl),rfl⟩ (ae.1 rfl) rfl rfl)<|lc (Qj 3 Qii KS rfl rfl (Fresh.of rfl) (nlr rfl))<|lc (Qc (Qa rfl) rfl (Qb rfl) rfl YD rfl) ?_
 iterate 5 refine w_ ?_
 refine AL.fact (Qo (x:= .tmp 17) (Qa rfl)) fun hl3=> ?_
 iterate 4 refine w_ ?_
 refine AC.wk (QF 4 (p:=3) (off:=1) 198 QS rfl rfl (Fresh.of rfl) (nlr rfl)) ?_
 refine Qu (fun m_ s_=>∃(k:Nat),k≤a.2.length∧m_=a.2.length - k∧s_=⟨[(2,lP 0 0),(3,lP 1 0),(4,lP 2 0),(5,lP 3 0),(17,lf (.dat QZ a.2)),(18,lI (a.2.length:Int)),(19,lI (k:Int))],[(0,some (.box 25 [dI a.1, .dat QZ a.2])),(1,some (.box 25 [dI b.1, .dat QZ b.2])),(2,some (.box 25 [dI 0, .val (.slice none 0 0)])),(3,some (.box 25 [dI (a.1+b.1), .ref 5])),(5,some (.arr 198 QS (a.2.take k)))]⟩) ⟨0,aw _,rfl,rfl⟩ ?_ ?_
 exact wp [(0,0),(1,1),(2,2),(3,3),(5,4)] ⟨rfl,rfl,rfl,rfl,(Qp (by first | rfl | simp)),trivial⟩
 rintro m_ s_ ⟨k,hk4,hm5,rfl⟩
 iterate 4 refine w_ ?_
 cases hb6:(decide ((k:Int) < (a.2.length:Int)))
 have hb6':=a7 hb6
 iterate 7 refine w_ ?_
 refine AL.fact (Qo (x:= .tmp 37) (Qa rfl)) fun hl7=> ?_
 iterate 4 refine w_ ?_
 refine Qu (fun m_ s_=>∃(k:Nat),k≤b.2.length∧m_=b.2.length - k∧s_=⟨[(2,lP 0 0),(4,lP 2 0),(5,lP 3 0),(37,lf (.dat QZ b.2)),(38,lI (b.2.length:Int)),(39,lI (k:Int))],[(0,some (.box 25 [dI a.1, .dat QZ a.2])),(2,some (.box 25 [dI 0, .val (.slice none 0 0)])),(3,some (.box 25 [dI (a.1+b.1), .ref 6])),(6,some (.arr 198 QS (a.2++(b.2.take k).map (Qdv a.1))))]⟩) ⟨0,aw _,rfl,rfl⟩ ?_ ?_
 exact wp [(0,0),(2,2),(3,3),(6,5)] ⟨rfl,rfl,rfl,(Qp (by rw[ZF (by omega)]; simp)),trivial⟩
 rintro m_ s_ ⟨k,hk8,hm9,rfl⟩
 iterate 4 refine w_ ?_
 cases hb10:(decide ((k:Int) < (b.2.length:Int)))
 have hb10':=a7 hb10
 iterate 5 refine w_ ?_
 refine lc (Qc (Qa rfl) rfl (Qb rfl) rfl YD rfl) ?_
 iterate 2 refine w_ ?_
 subst hO
 exact QD _ _ [(0,6)] (Qg rfl (QG rfl rfl YD rfl)) (rfl) ⟨(Qp (by rw[ZF (by omega)])),trivial⟩ rfl rfl
 have hb10':=a8 hb10
 iterate 5 refine w_ ?_
 obtain ⟨x11,hx12⟩:=gx b.2 k
 refine lc (Qh (Qa rfl) (Qa rfl) Zw Zn rfl (by omega) hx12) ?_
 refine w_ ?_
 refine lc (Qj 7 QS We rfl rfl (Fresh.of rfl) (nlr rfl))<|lc (Qc (Qa rfl) rfl (Qb rfl) rfl Zn rfl) ?_
 refine w_ ?_
 refine dv [io 43 (lP 3 1),io 44 (lR 6),io 45 (lP 7 0),io 46 (lf (.dat Qs x11.1)),io 47 (lP 0 0),io 48 (lI a.1),⟨some 49,lR 8,[(8,some (.arr 3 .int (x11.1.map fun x=>x+a.1)))]⟩,io 50 (lP 7 1),io 51 (lf (.dat Qs x11.2)),io 52 (lP 0 0),io 53 (lI a.1),⟨some 54,lR 9,[(9,some (.arr 3 .int (x11.2.map fun x=>x+a.1)))]⟩,io 55 (ag [.ref 8, .ref 9]),⟨some 56,lR 10,[(10,some (.arr 198 QS ([(x11.1.map fun x=>x+a.1,x11.2.map fun x=>x+a.1)]))),(8,none),(9,none)]⟩,⟨some 57,lR 11,[(11,some (.arr 198 QS ((a.2++(b.2.take k).map (Qdv a.1))++([(x11.1.map fun x=>x+a.1,x11.2.map fun x=>x+a.1)])))),(6,none),(10,none)]⟩,io 58 (lP 3 1),⟨none,lf (.val undef),[(3,some (.box 25 [dI (a.1+b.1), .ref 11]))]⟩] [0,1,0,4,0,16,60,0,128,0,512,2044,4092,8188,16383,32767,65535] mixed rfl (by kernel_rfl) ⟨dxf Zz rfl rfl rfl,dxl Yf rfl rfl rfl rfl rfl,dxf Z0 rfl rfl rfl,dxl QU rfl rfl rfl rfl rfl,dxf J2 rfl rfl rfl,dxl QL rfl rfl rfl rfl rfl,fun _ h_=>ac (YF 8 (Vk x11.1 a.1 (hp2 _ (ai hx12)).1 (fun x hx _=>(hb _ (ai hx12)).1 x hx)) K1 ⟨_,_,rfl,(h_.w rfl),⟨_,_,rfl,(h_.w rfl),rfl⟩⟩ rfl (h_.fr 8 rfl) (nlr rfl)) rfl,dxf YV rfl rfl rfl,dxl QU rfl rfl rfl rfl rfl,dxf J2 rfl rfl rfl,dxl QL rfl rfl rfl rfl rfl,fun _ h_=>ac (YF 9 (Vk x11.2 a.1 (hp2 _ (ai hx12)).2 (fun x hx _=>(hb _ (ai hx12)).2 x hx)) K1 ⟨_,_,rfl,(h_.w rfl),⟨_,_,rfl,(h_.w rfl),rfl⟩⟩ rfl (h_.fr 9 rfl) (nlr rfl)) rfl,fun _ h_=>ac (QA HA ⟨_,_,rfl,(h_.w rfl),⟨_,_,rfl,(h_.w rfl),rfl⟩⟩ (ae.1 (by simp only[ZB,X7,aQ,b8]; rw[(h_.en 8 rfl),(h_.en 9 rfl)]; rfl)) rfl rfl) rfl,fun _ h_=>ac (Qf 10 (e:=QS) Zw Zn We rfl ⟨_,_,rfl,(h_.w rfl),rfl⟩ (ae.1 (by simp only[ZB,X7,aQ,b8]; rw[(h_.en 8 rfl),(h_.en 9 rfl)]; rfl)) ⟨_,_,_,_,rfl,⟨[.ref 8],[.ref 9],_,_,_,_,rfl,rfl,(.inl ⟨_,rfl,(h_.en 8 rfl),rfl⟩),(.inl ⟨_,rfl,(h_.en 9 rfl),rfl⟩),rfl⟩,⟨rfl,rfl⟩,rfl⟩ (by decide) rfl rfl (h_.fr 10 rfl) (nlr rfl)) rfl,fun _ h_=>ac (QH 11 (h_.v rfl) (h_.en 6 rfl) (h_.v rfl) (h_.en 10 rfl) rfl Zw HD (by simp only[aa,av,ab,ah,aj]; omega) rfl (h_.fr 11 rfl) (nlr rfl)) rfl,dxf Zz rfl rfl rfl,fun _ h_=>ac (Qc (h_.v rfl) (h_.en 3 rfl) (h_.w rfl) (by simp only[ZB,X7,aQ,b8]; rw[(h_.en 11 rfl)]; rfl) Yf rfl) rfl,⟨⟩⟩ ?_
 iterate 4 refine w_ ?_
 refine Qm<|QV ⟨k+1,by omega,rfl,rfl⟩ (by omega) ?_
 exact wp [(0,0),(2,2),(3,3),(6,11)] ⟨rfl,rfl,rfl,(Qp (by rw[Q0 hx12]; simp[Qdv])),trivial⟩
 have hb6':=a8 hb6
 iterate 5 refine w_ ?_
 obtain ⟨x13,hx14⟩:=gx a.2 k
 refine lc (Qh (Qa rfl) (Qa rfl) Zw Zn rfl (by omega) hx14) ?_
 refine w_ ?_
 refine lc (Qj 12 QS We rfl rfl (Fresh.of rfl) (nlr rfl))<|lc (Qc (Qa rfl) rfl (Qb rfl) rfl Zn rfl) ?_
 refine w_ ?_
 refine dv [io 23 (lP 3 1),io 24 (lR 5),io 25 (lP 12 0),io 26 (lf (.dat Qs x13.1)),⟨some 27,lR 13,[(13,some (.arr 3 .int (x13.1.map fun x=>x+0)))]⟩,io 28 (lP 12 1),io 29 (lf (.dat Qs x13.2)),⟨some 30,lR 14,[(14,some (.arr 3 .int (x13.2.map fun x=>x+0)))]⟩,io 31 (ag [.ref 13, .ref 14]),⟨some 32,lR 15,[(15,some (.arr 198 QS ([(x13.1.map fun x=>x+0,x13.2.map fun x=>x+0)]))),(13,none),(14,none)]⟩,⟨some 33,lR 16,[(16,some (.arr 198 QS ((a.2.take k)++([(x13.1.map fun x=>x+0,x13.2.map fun x=>x+0)])))),(5,none),(15,none)]⟩,io 34 (lP 3 1),⟨none,lf (.val undef),[(3,some (.box 25 [dI (a.1+b.1), .ref 16]))]⟩] [0,1,0,4,12,0,32,124,252,508,1023,2047,4095] mixed rfl (by kernel_rfl) ⟨dxf Zz rfl rfl rfl,dxl Yf rfl rfl rfl rfl rfl,dxf Z0 rfl rfl rfl,dxl QU rfl rfl rfl rfl rfl,fun _ h_=>ac (YF 13 (Vk x13.1 0 (hp _ (ai hx14)).1 (fun x _ h=>by simpa using h)) K1 ⟨_,_,rfl,(h_.w rfl),⟨_,_,rfl,(Evl.ev (Qv rfl)),rfl⟩⟩ rfl (h_.fr 13 rfl) (nlr rfl)) rfl,dxf YV rfl rfl rfl,dxl QU rfl rfl rfl rfl rfl,fun _ h_=>ac (YF 14 (Vk x13.2 0 (hp _ (ai hx14)).2 (fun x _ h=>by simpa using h)) K1 ⟨_,_,rfl,(h_.w rfl),⟨_,_,rfl,(Evl.ev (Qv rfl)),rfl⟩⟩ rfl (h_.fr 14 rfl) (nlr rfl)) rfl,fun _ h_=>ac (QA HA ⟨_,_,rfl,(h_.w rfl),⟨_,_,rfl,(h_.w rfl),rfl⟩⟩ (ae.1 (by simp only[ZB,X7,aQ,b8]; rw[(h_.en 13 rfl),(h_.en 14 rfl)]; rfl)) rfl rfl) rfl,fun _ h_=>ac (Qf 15 (e:=QS) Zw Zn We rfl ⟨_,_,rfl,(h_.w rfl),rfl⟩ (ae.1 (by simp only[ZB,X7,aQ,b8]; rw[(h_.en 13 rfl),(h_.en 14 rfl)]; rfl)) ⟨_,_,_,_,rfl,⟨[.ref 13],[.ref 14],_,_,_,_,rfl,rfl,(.inl ⟨_,rfl,(h_.en 13 rfl),rfl⟩),(.inl ⟨_,rfl,(h_.en 14 rfl),rfl⟩),rfl⟩,⟨rfl,rfl⟩,rfl⟩ (by decide) rfl rfl (h_.fr 15 rfl) (nlr rfl)) rfl,fun _ h_=>ac (QH 16 (h_.v rfl) (h_.en 5 rfl) (h_.v rfl) (h_.en 15 rfl) rfl Zw HD (by simp only[aa,av,ab,ah,aj]; omega) rfl (h_.fr 16 rfl) (nlr rfl)) rfl,dxf Zz rfl rfl rfl,fun _ h_=>ac (Qc (h_.v rfl) (h_.en 3 rfl) (h_.w rfl) (by simp only[ZB,X7,aQ,b8]; rw[(h_.en 16 rfl)]; rfl) Yf rfl) rfl,⟨⟩⟩ ?_
 iterate 4 refine w_ ?_
 refine Qm<|QV ⟨k+1,by omega,rfl,rfl⟩ (by omega) ?_
 exact wp [(0,0),(1,1),(2,2),(3,3),(5,16)] ⟨rfl,rfl,rfl,rfl,(Qp (by rw[Q0 hx14]; simp)),trivial⟩
theorem QcK (n:Int×(List (List Int×List Int)))(hz:Ty.tot UD n≤2000000):FC Tryz.prog 168 [(true,[dI n.1, .dat QZ n.2])] [] 0 (Is (ag [dI n.1, .ref 0]) [(0,some (.arr 198 QS n.2))]):=by
 refine QO Tryz.func168 rfl rfl Tryz.ntmps168 fun O_ hO w0_ N0_ X_ h0_ f0_=> ?_
 refine AC.fact (QI (x:= .tmp 0) (i:=0) (Qb rfl) rfl) fun hi1=> ?_
 refine w_ ?_
 refine lc (Qy 0 (Qb rfl) rfl rfl (Fresh.of rfl) (nlr rfl))<|lc (Qj 1 Qii KS rfl rfl (Fresh.of rfl) (nlr rfl)) ?_
 iterate 3 refine w_ ?_
 refine lc (QA Qb3 rfl (ae.1 rfl) rfl rfl)<|lc (Q8 2 (Qbs n (0,([]:(QZ:Ty).Den)) hz (by decide) (by simpa using hi1) (by simp)) QjI ⟨_,_,rfl,(Qb rfl),⟨_,_,rfl,(Ev.nils (Qb rfl) ⟨_,_,rfl, .inl rfl,⟨_,_,rfl, .inr ⟨_,_,rfl,rfl⟩,rfl⟩⟩),rfl⟩⟩ rfl rfl ⟨Fresh.of rfl,trivial⟩ (nlr rfl))<|lc (Qc (Qa rfl) rfl (Qb rfl) rfl YD rfl) ?_
 iterate 2 refine w_ ?_
 subst hO
 have e2:(n.1+(0,([]:(QZ:Ty).Den)).1:Int)=n.1:=by
  simp
 exact QD _ _ [(0,2)] (Qg rfl (QG rfl rfl YD rfl)) (by rw[e2] <;> rfl) ⟨(Qp (by simp)),trivial⟩ rfl rfl
theorem Jg (s:(Int×(List (List Int×List Int)))×(List (ByteArray×Int))×(List (Int×Bool))×ByteArray)(hz:Ty.tot ZC s≤2000000):FC Tryz.prog 78 [(true,[dI s.1.1, .dat QZ s.1.2, .dat QJ s.2.1, .dat QR s.2.2.1,dS s.2.2.2])] [] 0 (Is (ag [dI s.1.1, .ref 0, .ref 1, .ref 2,dS s.2.2.2]) [(0,some (.arr 198 QS s.1.2)),(1,some (.arr 90 QY s.2.1)),(2,some (.arr 55 Q5 s.2.2.1))]):=by
 obtain ⟨hz1,hz2,hz3⟩:=KF hz
 refine QO Tryz.func78 rfl rfl Tryz.ntmps78 fun O_ hO w0_ N0_ X_ h0_ f0_=> ?_
 refine AC.fact (QI (x:= .tmp 0) (i:=0) (Qb rfl) rfl) fun hi1=> ?_
 refine w_ ?_
 refine lc (Qy 0 (Qb rfl) rfl rfl (Fresh.of rfl) (nlr rfl))<|lc (Qj 1 Xr ZE rfl rfl (Fresh.of rfl) (nlr rfl)) ?_
 refine w_ ?_
 refine dw [io 3 (lP 0 0),io 4 (ag [dI s.1.1, .dat QZ s.1.2]),⟨some 5,ag [dI s.1.1, .ref 2],[(2,some (.arr 198 QS s.1.2))]⟩,⟨some 6,lR 3,[(3,some (.arr 90 QY ([])))]⟩,io 7 (lP 0 2),io 8 (lf (.dat QJ s.2.1)),⟨some 9,lR 4,[(4,some (.arr 90 QY (([])++s.2.1))),(3,none)]⟩,⟨some 10,lR 5,[(5,some (.arr 55 Q5 ([])))]⟩,io 11 (lP 0 3),io 12 (lf (.dat QR s.2.2.1)),⟨some 13,lR 6,[(6,some (.arr 55 Q5 (([])++s.2.2.1))),(5,none)]⟩,io 14 (lP 0 4),io 15 (lf (dS s.2.2.2)),io 16 (ag [dI s.1.1, .ref 2, .ref 4, .ref 6,dS s.2.2.2]),⟨none,lf (.val undef),[(1,some (.box 29 [dI s.1.1, .ref 2, .ref 4, .ref 6,dS s.2.2.2]))]⟩] [0,1,3,0,0,16,63,0,0,256,1023,0,2048,8191,16383] mixed rfl (by kernel_rfl) ⟨dxf Z1 rfl rfl rfl,dxa YD rfl rfl rfl rfl,fun _ h_=>ac (Q8 2 (QcK s.1 hz1) Qj3 ⟨_,_,rfl,(h_.w rfl),rfl⟩ rfl rfl ⟨(h_.fr 2 rfl),trivial⟩ (nlr rfl)) rfl,fun _ h_=>ac (Qf 3 (e:=QY) YE YJ UZ rfl rfl (ae.1 rfl) ⟨rfl,rfl⟩ (by decide) rfl rfl (h_.fr 3 rfl) (nlr rfl)) rfl,dxf XH rfl rfl rfl,dxl Ub rfl rfl rfl rfl rfl,fun _ h_=>ac (Zp 4 (h_.v rfl) (h_.en 3 rfl) (Evl.rep (h_.v rfl)) rfl YE QaO (by simp only[aj]; omega) rfl (h_.fr 4 rfl) (nlr rfl)) rfl,fun _ h_=>ac (Qf 5 (e:=Q5) Yq ZO WF rfl rfl (ae.1 rfl) ⟨rfl,rfl⟩ (by decide) rfl rfl (h_.fr 5 rfl) (nlr rfl)) rfl,dxf XP rfl rfl rfl,dxl WK rfl rfl rfl rfl rfl,fun _ h_=>ac (Zp 6 (h_.v rfl) (h_.en 5 rfl) (Evl.rep (h_.v rfl)) rfl Yq QaU (by simp only[aj]; omega) rfl (h_.fr 6 rfl) (nlr rfl)) rfl,dxf XQ rfl rfl rfl,dxl Zg rfl rfl rfl rfl rfl,fun _ h_=>ac (QA YS ⟨_,_,rfl,(h_.w rfl),⟨_,_,rfl,(h_.w rfl),⟨_,_,rfl,(h_.w rfl),⟨_,_,rfl,(h_.w rfl),rfl⟩⟩⟩⟩ (ae.1 (by simp only[ZB,X7,aQ,b8]; rw[(h_.en 2 rfl),(h_.en 4 rfl),(h_.en 6 rfl)]; rfl)) rfl rfl) rfl,fun _ h_=>ac (Qc (h_.v rfl) (h_.en 1 rfl) (h_.w rfl) (by simp only[ZB,X7,aQ,b8]; rw[(h_.en 2 rfl),(h_.en 4 rfl),(h_.en 6 rfl)]; rfl) Qz rfl) rfl,⟨⟩⟩<|Q4 ?_
 subst hO
 exact QD _ _ [(0,2),(1,4),(2,6)] (Qg rfl (QG rfl rfl Qz rfl)) (rfl) ⟨rfl,(Qp (by rfl)),(Qp (by rfl)),trivial⟩ rfl rfl
end Go.Proofs.YtjaadeknhofhpaaGreat
