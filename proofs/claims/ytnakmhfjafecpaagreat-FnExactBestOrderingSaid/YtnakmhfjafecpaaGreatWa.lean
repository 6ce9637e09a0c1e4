/- Abstract states: struct literals of types with maps; clearing the end of an own slice; an own slice cut short; keys that are structs. No program is named here. -/
import Derived.Test.YtnakmhfjafecpaaGreatAg
import Derived.Test.YtnakmhfjafecpaaGreatAe
import Derived.DeepKeys3
import Derived.Laws.Shifts
import Derived.Laws.BitsAllLaws
import Derived.Test.YtnakmhfjafecpaaGreatAf
import Derived.Test.YtnakmhfjafecpaaGreatAk
import Derived.Sort.EveryDepth
import Derived.Sort.OwnSortedInts
import Derived.Shelf.Sort.AssemblyIn
import Derived.Test.YtnakmhfjafecpaaGreatAi
set_option linter.unusedSimpArgs false
set_option linter.unusedVariables false
set_option linter.unusedSectionVars false
namespace Go.Proofs.YtnakmhfjafecpaaGreat
open Go.RowKit
section
variable {A:Amb}{P:Program}{s:St}{x y z:Operand}{d:Nat}{T T' ty:TypeId}{pos:String}{af:Array Edge}{g:Option (Nat×Bool)}
def QqB (P:Program)(T:TypeId)(offs:List (Nat×Nat))(zs:List Value):Prop:=
  ∃fs,P.underlying T=some (.struct fs)∧(∀w,(fs.mapM fun (f:Field)=>do pure (f.offset,← sizeOf f.type)).run P w= .ok offs.toArray w)∧zer P T=some (.agg zs.toArray)
end
theorem Qpj {A:Amb}{P:Program}{s:St}{fn:Func}(hr:fn.results= #[]):Res A P fn s (.tup []):=fun gh a w g=>by
  refine ⟨.tuple #[], ?_,[],rfl,rfl⟩
  rw[Va,hr]; simp[Wg,Sem.run_bind]
section
variable {A:Amb}{P:Program}{s:St}{x y z:Operand}{d:Nat}{T T' ty:TypeId}{pos:String}{af:Array Edge}{g:Option (Nat×Bool)}
variable {E:TypeId}{e:Ty}{xs:List e.Den}{q lo n:Nat}
theorem OwnL.takeW {w:World}(hf:e.flat=true):∀{xs:List e.Den} {fp:List Nat} {cs:List Value} (k:Nat),OwnL (Own e w) fp cs xs→OwnL (Own e w) [] (cs.take (k*e.wd)) (xs.take k)
  | [],_,_,k,h=>by rw[h.2]; simp[OwnL]
  | x :: xs,_,_,0,_=>by simp[OwnL]
  | x :: xs,_,_,k+1,⟨f1,f2,c1,c2,h1,h2,h3,h4⟩=>by
    have hl:=h3.len
    have hf1:=Kw hf h3
    subst hf1
    rw[h2]
    refine ⟨[],[],c1,c2.take (k*e.wd),rfl, ?_,h3,OwnL.takeW hf k h4⟩
    rw[Nat.succ_mul,Nat.add_comm,← hl,List.take_length_add_append]
theorem QcE (t i:Nat)(hi:lk s.tm i=some (lf (.sub q e.wd 0 n)))(he:s.tab.ent q=some (.arr E e xs))(hn:n≤xs.length)(hf:e.flat=true)(hfr:Fresh s t)(hk0:A.k0≤t):
    Wk A s ⟨(i,lf (.ref t)) :: s.tm,(t,some (.arr E e (xs.take n))) :: (q,none) :: s.tab⟩:=fun a w r=>by
  obtain ⟨gh,r⟩:=r
  obtain ⟨v,h1,l,h2,h3⟩:=r.tm i _ hi
  simp only[List.cons.injEq,and_true] at h2
  subst h2
  obtain ⟨B,m,c,q1,q2⟩:=h3 ⟨_,he⟩
  have hO:Own (.sl E e) w (gh.f q) [gh.h q] xs:=r.cx.en q _ he
  have hv:v= .slice B n c:=by
    rw[q2]
    congr 1
    split
    · rfl
    · cases B with
      | none=>rfl
      | some b=>cases b; simp[Addr.add]
  have hO':Own (.sl E e) w (gh.f q) [v] (xs.take n):=by
    rcases hO with ⟨k1,k2,k3⟩ | ⟨b,cap,cur,fps,p2,p3,p4,p5,p6,p7,p8⟩
    · subst k3
      simp only[List.cons.injEq,and_true] at k2
      rw[q1] at k2
      simp only[Value.slice.injEq] at k2
      obtain ⟨rfl,rfl,rfl⟩:=k2
      have:n=0:=by simpa using hn
      subst this
      exact .inl ⟨k1,by rw[hv],by simp⟩
    · have hfp := p8.fp0 hf
      subst hfp
      simp only[List.cons.injEq,and_true] at p3
      rw[q1] at p3
      simp only[Value.slice.injEq] at p3
      obtain ⟨rfl,rfl,rfl⟩:=p3
      have hl:(xs.take n).length=n:=by rw[List.length_take]; omega
      refine .inr ⟨b,c,cur,[],p2,by rw[hv,hl],p4,by rw[hl]; omega,p6,p7, ?_⟩
      rw[hl]
      have:=p8.takeW hf n
      rwa [List.take_take,Nat.min_eq_left (Nat.mul_le_mul_right _ hn)] at this
  have r2:=r.make t hfr hk0 [q] (fun q' h=>by rw[List.mem_singleton.1 h]; exact ⟨_,he⟩) (Zl w) (fun _ _ _=>rfl) hO' (r.cx.nd q ⟨_,he⟩) (fun g hg=> .inr ⟨q,List.mem_singleton.2 rfl,hg⟩)
  exact ⟨_,r2.know h1 (pv:=lf (.ref t)) ⟨_,rfl,fun _=>by simp⟩⟩
theorem Qcy (z:Array Value)(n:Nat):Builtin.zeroCells z n=madeCells z (n*z.size):=rfl
theorem QaF {Tl E':TypeId}{zv:Value}(hx:Evl A s x (.sub q e.wd lo n))(he:s.tab.ent q=some (.arr E e xs))(hb:lo+n=xs.length)(hT:P.underlying Tl=some (.slice E'))(hz:zer P E'=some zv)(hzc:zv.cells.toList=e.zeros)(hzo:e.zeros.all (·.oneCell')=true)(hf:e.flat=true):
    Does A P ⟨none, .call ⟨.builtin .clear, #[x], #[Tl]⟩,ty,pos,af,g⟩ s ⟨s.tm,(q,some (.arr E e (xs.take lo++List.replicate n e.zero))) :: s.tab⟩:=fun a w K Q r hK=>by
  obtain ⟨gh,r⟩:=r
  have hO:Own (.sl E e) w (gh.f q) [gh.h q] xs:=r.cx.en q _ he
  have hO0:=hO
  obtain ⟨B,m,c,q1,q2⟩:=hx gh a w r ⟨_,he⟩
  have hzl:e.zeros.length=e.wd:=(ZK e w).len
  have hzs:zv.cells=e.zeros.toArray:=by rw[← hzc]
  rcases Nat.eq_zero_or_pos n with hn0 | hn0
  · subst hn0
    have hxs:xs.take lo++List.replicate 0 e.zero=xs:=by rw[List.take_of_length_le (by omega)]; simp
    have e0:(execOp a.eval ⟨none, .call ⟨.builtin .clear, #[x], #[Tl]⟩,ty,pos,af,g⟩).run P w= .ok (.value (.tuple #[])) w:=by
      simp only[execOp,resolve,invoke,builtin,q2,Go.Sem.run_bind,Go.Sem.run_pure,Result.andThen_ok,List.map_toArray,List.map_cons,List.map_nil]
      generalize (if c=lo then B else B.map (·.add (lo*e.wd)))=BB
      cases BB <;> simp[Builtin.clear_,run_underlying hT]
    unfold Oper.wp
    rw[e0,Oper.upon_value]
    refine hK _ _ ⟨gh,r.mod he (Zl w) (fun _ _ _=>rfl) ?_⟩
    rw[hxs]
    exact hO0
  · rcases hO with ⟨_, _, h⟩ | ⟨b, cap, cur, fps, p2, p3, p4, p5, p6, p7, p8⟩
    · subst h; simp at hb; omega
    have hfp:=p8.fp0 hf
    subst hfp
    simp only[List.cons.injEq,and_true] at p3
    rw[q1] at p3
    simp only[Value.slice.injEq] at p3
    obtain ⟨rfl,rfl,rfl⟩:=p3
    rw[if_neg (by omega)] at q2
    simp only[Option.map_some,Addr.add_lit,Nat.zero_add] at q2
    have hzz:(Builtin.zeroCells zv.cells n).toList=(List.replicate n e.zeros).flatten:=by
      have h2:=QaP e.zeros n (by rw[hzl]; exact WQ e)
      rw[Qcy,hzs,List.size_toArray,h2]
    have hfl:((List.replicate n e.zeros).flatten).length=n*e.wd:=by simp[hzl]
    have hwd:=Nat.mul_le_mul_right e.wd p5
    have hle:lo*e.wd+n*e.wd=xs.length*e.wd:=by rw[← hb,Nat.add_mul]
    have hst:=Ku (P:=P) (b:=b) (E:=E) ((List.replicate n e.zeros).flatten) (lo*e.wd) 0 w cur p4 (by rw[hfl,p7]; omega) (fun v hv=>by
      obtain ⟨l,hl,hv⟩:=List.mem_flatten.1 hv
      rw[List.eq_of_mem_replicate hl] at hv
      exact List.all_eq_true.1 hzo v hv)
    rw[Nat.add_zero] at hst
    have e0:(execOp a.eval ⟨none, .call ⟨.builtin .clear, #[x], #[Tl]⟩,ty,pos,af,g⟩).run P w= .ok (.value (.tuple #[])) (Wh w b (lo*e.wd) ((List.replicate n e.zeros).flatten)):=by
      obtain ⟨n,rfl⟩:∃k,n=k+1:=⟨n - 1,by omega⟩
      simp only[execOp,resolve,invoke,builtin,q2,Go.Sem.run_bind,Go.Sem.run_pure,Result.andThen_ok,List.map_toArray,List.map_cons,List.map_nil]
      simp[Builtin.clear_,run_underlying hT,Ky hz,hzz,hst]
    unfold Oper.wp
    rw[e0,Oper.upon_value]
    obtain ⟨cur',m1,m2,m3⟩:=Un b E (0,0) ((List.replicate n e.zeros).flatten) w (lo*e.wd) cur p4 (by rw[hfl,p7]; omega)
    refine hK _ _ ⟨gh,r.mod he (U9 w b _ _) (fun g0 _ hg0=>YM w b _ _ g0 fun h=>hg0 (by rw[p2,h]; simp)) ?_⟩
    have hl:(xs.take lo++List.replicate n e.zero).length=xs.length:=by simp; omega
    refine .inr ⟨b,c,cur',[],p2,by rw[q1,hl],m1,by omega,p6,by rw[m2]; exact p7, ?_⟩
    rw[hl]
    have hlist:cur'.toList.take (xs.length*e.wd)=(cur.toList.take (xs.length*e.wd)).take (lo*e.wd)++(List.replicate n e.zeros).flatten:=by
      have h9:=Qf9 (l:=cur.toList) (len:=xs.length*e.wd) (lo:=lo*e.wd) (cs:=(List.replicate n e.zeros).flatten) (by rw[hfl]; omega) (by simp; omega)
      rw[m3,h9,hfl,List.drop_eq_nil_of_le (by simp; omega),List.append_nil]
    rw[hlist]
    have keep:∀{cs:List Value} {zs:List e.Den},OwnL (Own e w) [] cs zs→OwnL (Own e (Wh w b (lo*e.wd) ((List.replicate n e.zeros).flatten))) [] cs zs:=fun h=>h.mono fun f c x hf' ho=>ho.keep fun g hg=>absurd (hf' g hg) (by simp)
    exact (keep (p8.takeW hf lo)).append (OwnL.zeros e _ n)
end
end Go.Proofs.YtnakmhfjafecpaaGreat
namespace Go.Proofs.YtnakmhfjafecpaaGreat
open Go.RowKit
section
variable {A:Amb}{P:Program}{s:St}{x y:Operand}{d:Nat}{T T' ty:TypeId}{pos:String}{af:Array Edge}{g:Option (Nat×Bool)}
theorem Qf3 (op:BinOp)(hop:op= .and∨op= .or)(m n:Nat)(hm:m < 9223372036854775808)(hn:n < 9223372036854775808):bits op .i64 (m:Int) (n:Int)=((if op= .and then m &&& n else m ||| n:Nat):Int):=by
  have h1:(BitVec.ofInt 64 (m:Int)).toNat=m:=by rw[BitVec.ofInt_natCast,BitVec.toNat_ofNat]; exact Nat.mod_eq_of_lt (by omega)
  have h2:(BitVec.ofInt 64 (n:Int)).toNat=n:=by rw[BitVec.ofInt_natCast,BitVec.toNat_ofNat]; exact Nat.mod_eq_of_lt (by omega)
  rcases hop with rfl | rfl
  · have hx : m &&& n < 2 ^ 63 := Nat.and_lt_two_pow _ (by omega)
    show IntKind.i64.wrap ((BitVec.ofInt 64 (m:Int) &&& BitVec.ofInt 64 (n:Int)).toNat:Int)=_
    rw[BitVec.toNat_and,h1,h2,IntWalk.i64_in _ (by omega)]
    rfl
  · have hx : m ||| n < 2 ^ 63 := Nat.or_lt_two_pow (by omega) (by omega)
    show IntKind.i64.wrap ((BitVec.ofInt 64 (m:Int) ||| BitVec.ofInt 64 (n:Int)).toNat:Int)=_
    rw[BitVec.toNat_or,h1,h2,IntWalk.i64_in _ (by omega)]
    rfl
theorem QgA {m n:Int}(hx:Evl A s x (dI m))(hy:Evl A s y (dI n))(hn:Nat.blt d A.n=true)(h0:0≤m)(h00:0≤n):Does A P ⟨some d, .binOp .and T x y T',ty,pos,af,g⟩ s (s.put d (lf (dI ((m.toNat &&& n.toNat:Nat):Int)))):=
  Qr rfl hn fun gh a w r=>by
    have h1:=hx.i r
    have h2:=hy.i r
    have k1:=(LVR.int (hx gh a w r)).2
    have k2:=(LVR.int (hy gh a w r)).2
    have hb:=Qf3 .and (.inl rfl) m.toNat n.toNat (by omega) (by omega)
    rw[Int.toNat_of_nonneg h0,Int.toNat_of_nonneg h00] at hb
    have hb:bits .and .i64 m n=((m.toNat &&& n.toNat:Nat):Int):=hb
    have h3:Op.intBits .and .i64 m n=pure (.int .i64 ((m.toNat &&& n.toNat:Nat):Int)):=by rw[← hb]; rfl
    have hx2:m.toNat &&& n.toNat≤m.toNat:=Nat.and_le_left
    refine ⟨.int .i64 ((m.toNat &&& n.toNat:Nat):Int), ?_,_,rfl,Xc (by omega)⟩
    simp only[execOp,h1,h2,eqGuard_at_int,binOp,h3]
    simp
theorem Qm7 {m n:Int}(hx:Evl A s x (dI m))(hy:Evl A s y (dI n))(hn:Nat.blt d A.n=true)(h0:0≤m)(h00:0≤n):Does A P ⟨some d, .binOp .or T x y T',ty,pos,af,g⟩ s (s.put d (lf (dI ((m.toNat ||| n.toNat:Nat):Int)))):=
  Qr rfl hn fun gh a w r=>by
    have h1:=hx.i r
    have h2:=hy.i r
    have k1:=(LVR.int (hx gh a w r)).2
    have k2:=(LVR.int (hy gh a w r)).2
    have hb:=Qf3 .or (.inr rfl) m.toNat n.toNat (by omega) (by omega)
    rw[Int.toNat_of_nonneg h0,Int.toNat_of_nonneg h00] at hb
    have hb:bits .or .i64 m n=((m.toNat ||| n.toNat:Nat):Int):=hb
    have h3:Op.intBits .or .i64 m n=pure (.int .i64 ((m.toNat ||| n.toNat:Nat):Int)):=by rw[← hb]; rfl
    have hx2:m.toNat ||| n.toNat < 2 ^ 63:=Nat.or_lt_two_pow (by omega) (by omega)
    refine ⟨.int .i64 ((m.toNat ||| n.toNat:Nat):Int), ?_,_,rfl,Xc (by omega)⟩
    simp only[execOp,h1,h2,eqGuard_at_int,binOp,h3]
    simp
theorem QfU {m n:Int}(hx:Evl A s x (dI m))(hy:Evl A s y (dI n))(hn:Nat.blt d A.n=true)(h0:0≤n∧n≤62)(hb: -9223372036854775808≤m*2 ^ n.toNat∧m*2 ^ n.toNat≤9223372036854775807):Does A P ⟨some d, .binOp .shl T x y T',ty,pos,af,g⟩ s (s.put d (lf (dI (m*2 ^ n.toNat)))):=
  Qr rfl hn fun gh a w r=>by
    have h1:=hx.i r
    have h2:=hy.i r
    have h3:Op.shift .shl .i64 m .i64 n=pure (.int .i64 (m*2 ^ n.toNat)):=by
      rw[shift_shl_any _ _ _ _ h0.1,show IntKind.i64.bits=64 from rfl,Nat.min_eq_left (by omega),IntWalk.i64_in _ (by omega)]
    refine ⟨.int .i64 (m*2 ^ n.toNat), ?_,_,rfl,Xc hb⟩
    simp only[execOp,h1,h2,eqGuard_at_int,binOp,h3]
    simp
theorem Qgg {m n:Int}(hx:Evl A s x (dI m))(hy:Evl A s y (dI n))(hn:Nat.blt d A.n=true)(h0:0≤n∧n≤62)(hm:0≤m):Does A P ⟨some d, .binOp .shr T x y T',ty,pos,af,g⟩ s (s.put d (lf (dI (m / 2 ^ n.toNat)))):=
  Qr rfl hn fun gh a w r=>by
    have h1:=hx.i r
    have h2:=hy.i r
    have k1:=(LVR.int (hx gh a w r)).2
    have h3:Op.shift .shr .i64 m .i64 n=pure (.int .i64 (m / 2 ^ n.toNat)):=by
      rw[shift_shr_any _ _ _ _ h0.1,show IntKind.i64.bits=64 from rfl,Nat.min_eq_left (by omega)]
    have h4:0≤m / 2 ^ n.toNat:=Int.ediv_nonneg hm (Int.pow_nonneg (by decide))
    have h5:m / 2 ^ n.toNat≤m:=Int.ediv_le_self _ hm
    refine ⟨.int .i64 (m / 2 ^ n.toNat), ?_,_,rfl,Xc (by omega)⟩
    simp only[execOp,h1,h2,eqGuard_at_int,binOp,h3]
    simp
end
end Go.Proofs.YtnakmhfjafecpaaGreat
namespace Go.Proofs.YtnakmhfjafecpaaGreat
open Go.RowKit
theorem Ql8:EqT Tryz.prog 2 61 true (.pr .int .bool):=EqT.struct Tryz.underlying61 (by kernel_rfl) (EqFs.cons (by decide) rfl QO (fun _=>rfl) (EqT.int QgD) (EqFs.one (by decide) rfl WW (fun _=>rfl) (EqT.bool QgP)))
theorem QkW:(Tryz.prog.eqGuardType Tryz.prog.depth 61=false)∧2≤10000:=⟨by kernel_rfl,by decide⟩
theorem Qlb:EqT Tryz.prog 2 85 true (.pr .int (.pr .int .bool)):=EqT.struct Tryz.underlying85 (by kernel_rfl) (EqFs.cons (by decide) rfl QO (fun _=>rfl) (EqT.int QgD) (EqFs.cons (by decide) rfl QO (fun _=>rfl) (EqT.int QgD) (EqFs.one (by decide) rfl WW (fun _=>rfl) (EqT.bool QgP))))
theorem Qmh:(Tryz.prog.eqGuardType Tryz.prog.depth 85=false)∧2≤10000:=⟨by kernel_rfl,by decide⟩
theorem QjE:EqT Tryz.prog 2 145 true (.pr .str .int):=EqT.struct Tryz.underlying145 (by kernel_rfl) (EqFs.cons (by decide) rfl Ze (fun _=>rfl) (EqT.str W9) (EqFs.one (by decide) rfl QO (fun _=>rfl) (EqT.int QgD)))
theorem Qjp:(Tryz.prog.eqGuardType Tryz.prog.depth 145=false)∧2≤10000:=⟨by kernel_rfl,by decide⟩
theorem Qjn:KeyL Tryz.prog 9 false .str:=KeyL.str W9
theorem QoX:ZeroV Tryz.prog 3 false .int:=⟨_,Yf,rfl⟩
end Go.Proofs.YtnakmhfjafecpaaGreat
namespace Go.Proofs.YtnakmhfjafecpaaGreat
open Go.RowKit
def Qb3 (xs:List Int):List Int:=xs.mergeSort fun x y=>decide (x≤y)
theorem JH (xs:List Int):(Qb3 xs).Perm xs:=List.mergeSort_perm ..
theorem Qks (xs:List Int):(Qb3 xs).length=xs.length:=(JH xs).length_eq
theorem Qko {xs:List Int}{x:Int}:x∈Qb3 xs↔x∈xs:=(JH xs).mem_iff
theorem Qfq (xs:List Int):(Qb3 xs).Pairwise fun x y=>x≤y:=by
  have h:=List.pairwise_mergeSort (le:=fun x y:Int=>decide (x≤y)) (fun a b c h1 h2=>by simp only[decide_eq_true_eq] at*; omega) (fun a b=>by simp only[Bool.or_eq_true,decide_eq_true_eq]; omega) xs
  exact h.imp fun h=>by simpa using h
def Qqe (P:Program)(f:FuncId):Prop:=∀(blk cap:Nat) (zs:List Int) (w:World),Sort.Holds (Value.int .i64) w blk 0 zs.toArray→blk < w.heap.size→zs.length < 4611686018427387904→
  Calls P f #[.slice (some ⟨blk,0,none⟩) zs.length cap] w fun e w'=>e= .returned (.tuple #[])∧∃n os,w'=Sort.grow (Sort.putRow (Value.int .i64) (Sort.ahead w n) blk 0 (Qb3 zs).toArray) os
def Qpx (P:Program)(f:FuncId):Prop:=∀w:World,Calls P f #[.slice none 0 0] w fun e w'=>e= .returned (.tuple #[])∧Nw w w'
end Go.Proofs.YtnakmhfjafecpaaGreat
namespace Go.Proofs.YtnakmhfjafecpaaGreat
structure TO {α:Type _} (lt:α→α→Bool):Prop where
  irr:∀x,lt x x=false
  tr:∀x y z,lt x y=true→lt y z=true→lt x z=true
  tot:∀x y,lt x y=true∨x=y∨lt y x=true
def Xa {α:Type _}[DecidableEq α](lt:α→α→Bool)(x:α):List α→List α
  | []=>[x]
  | y :: l=>if lt y x=true then y :: Xa lt x l else if y=x then y :: l else x :: y :: l
def Ug {α:Type _}[DecidableEq α]:List α→List α
  | []=>[]
  | [x]=>[x]
  | x :: y :: l=>if x=y then Ug (y :: l) else x :: Ug (y :: l)
def ofG {α:Type _}[DecidableEq α](lt:α→α→Bool)(l:List α):List α:=l.foldl (fun s x=>Xa lt x s) []
section
variable {α:Type _}[DecidableEq α]{lt:α→α→Bool}{l a b:List α}{x y z:α}{k:Nat}
omit [DecidableEq α] in
theorem TO.ext (h:TO lt):∀{a b:List α},a.Pairwise (fun x y=>lt x y=true)→b.Pairwise (fun x y=>lt x y=true)→(∀x,x∈a↔x∈b)→a=b
  | [],[],_,_,_=>rfl
  | [],y :: b,_,_,hm=>by have:=(hm y).2 (List.mem_cons_self ..); cases this
  | x :: a,[],_,_,hm=>by have:=(hm x).1 (List.mem_cons_self ..); cases this
  | x :: a,y :: b,ha,hb,hm=>by
    obtain ⟨a1,a2⟩:=List.pairwise_cons.1 ha
    obtain ⟨b1,b2⟩:=List.pairwise_cons.1 hb
    have hxy:x=y:=by
      rcases List.mem_cons.1 ((hm x).1 (List.mem_cons_self ..)) with h1 | h1
      · exact h1
      · rcases List.mem_cons.1 ((hm y).2 (List.mem_cons_self ..)) with h2 | h2
        · exact h2.symm
        · have := h.tr _ _ _ (a1 _ h2) (b1 _ h1)
          rw[h.irr] at this; cases this
    subst hxy
    congr 1
    refine h.ext a2 b2 fun z=>⟨fun hz=> ?_,fun hz=> ?_⟩
    · rcases List.mem_cons.1 ((hm z).1 (List.mem_cons_of_mem _ hz)) with h1 | h1
      · subst h1; have:=a1 _ hz; rw[h.irr] at this; cases this
      · exact h1
    · rcases List.mem_cons.1 ((hm z).2 (List.mem_cons_of_mem _ hz)) with h1 | h1
      · subst h1; have:=b1 _ hz; rw[h.irr] at this; cases this
      · exact h1
theorem Vh:z∈Xa lt x l↔z=x∨z∈l:=by
  induction l with
  | nil=>simp[Xa]
  | cons y l ih=>
    unfold Xa
    split
    · rw [List.mem_cons, ih, List.mem_cons]
      constructor
      · rintro (h | h | h)
        · exact .inr (.inl h)
        · exact .inl h
        · exact .inr (.inr h)
      · rintro (h | h | h)
        · exact .inr (.inl h)
        · exact .inl h
        · exact .inr (.inr h)
    · split
      · rename_i h; subst h
        rw[List.mem_cons]
        exact ⟨fun h=>h.elim .inl fun h=> .inr (.inr h),fun h=>h.elim .inl id⟩
      · rw[List.mem_cons]
theorem Qgu (h:TO lt)(hl:l.Pairwise (fun x y=>lt x y=true)):(Xa lt x l).Pairwise (fun x y=>lt x y=true):=by
  induction l with
  | nil=>simp[Xa]
  | cons y l ih=>
    obtain ⟨h1,h2⟩:=List.pairwise_cons.1 hl
    unfold Xa
    split
    · rename_i hy
      refine List.pairwise_cons.2 ⟨fun z hz=> ?_,ih h2⟩
      rcases Vh.1 hz with rfl | hz
      · exact hy
      · exact h1 z hz
    · split
      · exact hl
      · rename_i hy hne
        have hxy:lt x y=true:=by
          rcases h.tot x y with h3 | h3 | h3
          · exact h3
          · exact absurd h3.symm hne
          · exact absurd h3 hy
        refine List.pairwise_cons.2 ⟨fun z hz=> ?_,hl⟩
        rcases List.mem_cons.1 hz with rfl | hz
        · exact hxy
        · exact h.tr _ _ _ hxy (h1 z hz)
theorem QcD (h:TO lt):∀(l s:List α),s.Pairwise (fun x y=>lt x y=true)→(l.foldl (fun s x=>Xa lt x s) s).Pairwise (fun x y=>lt x y=true)∧∀z,z∈l.foldl (fun s x=>Xa lt x s) s↔z∈s∨z∈l
  | [],s,hs=>⟨hs,fun z=>by simp⟩
  | x :: l,s,hs=>by
    obtain ⟨h1,h2⟩:=QcD h l _ (Qgu (x:=x) h hs)
    refine ⟨h1,fun z=> ?_⟩
    rw[List.foldl_cons,h2,Vh,List.mem_cons]
    constructor
    · rintro ((h | h) | h)
      · exact .inr (.inl h)
      · exact .inl h
      · exact .inr (.inr h)
    · rintro (h | h | h)
      · exact .inl (.inr h)
      · exact .inl (.inl h)
      · exact .inr h
theorem Qbw (h:TO lt)(l:List α):(ofG lt l).Pairwise (fun x y=>lt x y=true):=(QcD h l [] List.Pairwise.nil).1
theorem UL (h:TO lt)(l:List α):z∈ofG lt l↔z∈l:=by
  have:=(QcD h l [] List.Pairwise.nil).2 z
  simpa [ofG] using this
theorem Qc0:Xa lt x (ofG lt l)=ofG lt (l++[x]):=by unfold ofG; rw[List.foldl_append]; rfl
theorem Hw:∀{l:List α},z∈Ug l↔z∈l
  | []=>Iff.rfl
  | [x]=>Iff.rfl
  | x :: y :: l=>by
    unfold Ug
    split
    · rename_i h; subst h
      rw[Hw]
      exact ⟨List.mem_cons_of_mem _,fun h=>(List.mem_cons.1 h).elim (fun h=>by rw[h]; exact List.mem_cons_self ..) id⟩
    · rw[List.mem_cons,Hw,List.mem_cons (l:=y :: l)]
theorem Qcz (h:TO lt):∀{l:List α},l.Pairwise (fun x y=>lt y x=false)→(Ug l).Pairwise (fun x y=>lt x y=true)
  | [],_=>List.Pairwise.nil
  | [x],_=>by simp[Ug]
  | x :: y :: l,hl=>by
    obtain ⟨h1,h2⟩:=List.pairwise_cons.1 hl
    unfold Ug
    split
    · exact Qcz h h2
    · rename_i hne
      refine List.pairwise_cons.2 ⟨fun z hz=> ?_,Qcz h h2⟩
      rw[Hw] at hz
      rcases h.tot x z with h3 | h3 | h3
      · exact h3
      · subst h3
        rcases List.mem_cons.1 hz with h4 | h4
        · exact absurd h4 hne
        · have h5 := h1 y (List.mem_cons_self ..)
          have h6:=(List.pairwise_cons.1 h2).1 x h4
          rcases h.tot x y with h7 | h7 | h7
          · rw[h6] at h7; cases h7
          · exact absurd h7 hne
          · rw[h5] at h7; cases h7
      · have:=h1 z hz; rw[this] at h3; cases h3
theorem QnL (h:TO lt){s l:List α}(hs:s.Pairwise (fun x y=>lt y x=false))(hm:∀z,z∈s↔z∈l):Ug s=ofG lt l:=
  h.ext (Qcz h hs) (Qbw h l) fun z=>by rw[Hw,hm,UL h]
theorem QiZ:∀{k:Nat} {l:List α},(∀j,j < k→∀y,l[j]? =some y→lt y x=true)→k≤l.length→(∀y,l[k]? =some y→lt y x=false∧y≠x)→Xa lt x l=l.take k++x :: l.drop k
  | 0,[],_,_,_=>rfl
  | 0,y :: l,_,_,h2=>by
    obtain ⟨h3,h4⟩:=h2 y rfl
    unfold Xa
    rw[if_neg (by rw[h3]; decide),if_neg h4]; rfl
  | k+1,[],_,hk,_=>by simp at hk
  | k+1,y :: l,h1,hk,h2=>by
    unfold Xa
    rw[if_pos (h1 0 (by omega) y rfl),QiZ (k:=k) (fun j hj z hz=>h1 (j+1) (by omega) z (by simpa using hz)) (by simpa using hk) (fun z hz=>h2 z (by simpa using hz))]
    rfl
theorem Qee:∀{k:Nat} {l:List α},(∀j,j < k→∀y,l[j]? =some y→lt y x=true)→l[k]? =some x→lt x x=false→Xa lt x l=l
  | 0,[],_,h,_=>by simp at h
  | 0,y :: l,_,h,h3=>by
    simp only[List.getElem?_cons_zero,Option.some.injEq] at h
    subst h
    unfold Xa
    rw[if_neg (by rw[h3]; decide),if_pos rfl]
  | k+1,[],_,h,_=>by simp at h
  | k+1,y :: l,h1,h,h3=>by
    unfold Xa
    rw[if_pos (h1 0 (by omega) y rfl),Qee (k:=k) (fun j hj z hz=>h1 (j+1) (by omega) z (by simpa using hz)) (by simpa using h) h3]
end
def ltI (x y:Int):Bool:=decide (x < y)
theorem Ka:TO ltI:=⟨fun x=>by simp[ltI],fun x y z h1 h2=>by simp only[ltI,decide_eq_true_eq] at*; omega,fun x y=>by simp only[ltI,decide_eq_true_eq]; omega⟩
end Go.Proofs.YtnakmhfjafecpaaGreat
namespace Go.Proofs.YtnakmhfjafecpaaGreat
open Go.RowKit
set_option maxRecDepth 100000
set_option maxHeartbeats 4000000
theorem Z3 (n:Int)(low:Int)(high:Int):FC Tryz.prog 154 [(false,[dI n]),(false,[dI low]),(false,[dI high])] [] 0 (Zq (lB (decide (low≤n∧n≤high)))):=by
 refine QN Tryz.func154 rfl rfl Tryz.ntmps154 fun O_ hO w0_ N0_ X_ h0_ f0_=> ?_
 refine AC.fact (QA (x:= .tmp 0) (Qa rfl)) fun hi1=>AC.fact (QA (x:= .tmp 1) (Qa rfl)) fun hi2=>AC.fact (QA (x:= .tmp 2) (Qa rfl)) fun hi3=> ?_
 iterate 8 refine w_ ?_
 cases hb4:(decide (low≤n))
 ·have hb4':=of_decide_eq_false hb4
  iterate 6 refine w_ ?_
  refine Qf ?_
  subst hO
  have e5:(false:Bool)=(decide (low≤n∧n≤high)):=by
   (rw[Bool.eq_iff_iff]; simp; omega)
  exact Ql (Qm rfl (Qd rfl)) ((congrArg (fun z_=>lB z_) e5)) rfl
 ·have hb4':=of_decide_eq_true hb4
  iterate 6 refine w_ ?_
  refine Qf ?_
  subst hO
  have e6:(decide (n≤high):Bool)=(decide (low≤n∧n≤high)):=by
   (simp_all; done)
  exact Ql (Qm rfl (Qd rfl)) ((congrArg (fun z_=>lB z_) e6)) rfl
theorem Ys (n:Int)(lo:Int)(hi:Int):FC Tryz.prog 149 [(false,[dI n]),(false,[dI lo]),(false,[dI hi])] [] 0 (Zq (lB (decide (lo≤n∧n≤hi)))):=by
 refine QN Tryz.func149 rfl rfl Tryz.ntmps149 fun O_ hO w0_ N0_ X_ h0_ f0_=> ?_
 refine AC.fact (QA (x:= .tmp 0) (Qa rfl)) fun hi1=>AC.fact (QA (x:= .tmp 1) (Qa rfl)) fun hi2=>AC.fact (QA (x:= .tmp 2) (Qa rfl)) fun hi3=> ?_
 iterate 8 refine w_ ?_
 cases hb4:(decide (lo≤n))
 ·have hb4':=of_decide_eq_false hb4
  iterate 6 refine w_ ?_
  refine Qf ?_
  subst hO
  have e5:(false:Bool)=(decide (lo≤n∧n≤hi)):=by
   (rw[Bool.eq_iff_iff]; simp; omega)
  exact Ql (Qm rfl (Qd rfl)) ((congrArg (fun z_=>lB z_) e5)) rfl
 ·have hb4':=of_decide_eq_true hb4
  iterate 6 refine w_ ?_
  refine Qf ?_
  subst hO
  have e6:(decide (n≤hi):Bool)=(decide (lo≤n∧n≤hi)):=by
   (simp_all; done)
  exact Ql (Qm rfl (Qd rfl)) ((congrArg (fun z_=>lB z_) e6)) rfl
theorem X8 (l:List Int)(by_:Int)(hl:l.length≤2000000)(hb:∀x∈l,(-9223372036854775808≤x∧x≤9223372036854775807)→ -9223372036854775808≤x+by_∧x+by_≤9223372036854775807):FC Tryz.prog 325 [(false,[.dat (.sl 3 .int) l]),(false,[dI by_])] [] 0 (UC 3 .int (l.map fun x=>x+by_)):=by
 refine QN Tryz.func325 rfl rfl Tryz.ntmps325 fun O_ hO w0_ N0_ X_ h0_ f0_=> ?_
 refine AC.fact (QA (x:= .tmp 1) (Qa rfl)) fun hi1=> ?_
 iterate 4 refine w_ ?_
 refine lc (Qg 0 (e:= .int) QE QO Yf rfl rfl (List.all_eq_true.1 rfl) ⟨rfl,rfl⟩ (by decide) rfl rfl (Fresh.of rfl) (nlr rfl)) ?_
 iterate 5 refine w_ ?_
 refine AL.fact (Qq (x:= .tmp 9) (Qa rfl)) fun hl2=> ?_
 iterate 4 refine w_ ?_
 refine Qx (fun m_ s_=>∃(k:Nat),k≤l.length∧m_=l.length - k∧s_=⟨[(1,lI by_),(4,lf (.val (.slice none 0 0))),(5,lR 1),(9,lf (.dat (.sl 3 .int) l)),(10,lI (l.length:Int)),(11,lI (k:Int))],[(1,some (.arr 3 .int ((l.take k).map fun x=>x+by_)))]⟩) ⟨0,Nat.zero_le _,rfl,rfl⟩ ?_ ?_
 · exact Wk.of [(1,0)] rfl ⟨rfl,rfl,rfl,rfl,rfl,rfl,trivial⟩ ⟨(Qy (by first | rfl | simp)),trivial⟩ rfl rfl
 rintro m_ s_ ⟨k,hk3,hm4,rfl⟩
 iterate 4 refine w_ ?_
 cases hb5:(decide ((k:Int) < (l.length:Int)))
 ·have hb5':=of_decide_eq_false hb5
  refine w_ ?_
  refine QB ?_
  refine (?_:AC _ _ _ _ _)
  iterate 4 refine w_ ?_
  refine Qf ?_
  subst hO
  refine ZU (e:= .int) (xs:=((l.take k).map fun x=>x+by_)) (Qm rfl (Qd rfl)) rfl ?_
  rw[Yi (by omega)]
 ·have hb5':=of_decide_eq_true hb5
  iterate 5 refine w_ ?_
  obtain ⟨x6,hx7⟩:∃z,l[k]? =some z:=⟨_,List.getElem?_eq_getElem (by omega)⟩
  have hbx:=hb x6 (List.mem_of_getElem? hx7)
  refine lc (Qh (Qa rfl) (Qa rfl) QE QO rfl (by omega) hx7) ?_
  refine w_ ?_
  refine AL.fact (QA (x:= .tmp 14) (Qa rfl)) fun hi8=> ?_
  iterate 6 refine w_ ?_
  refine lc (Qc3 (Qa rfl) (Qa rfl) rfl (by first | omega | (have:=hbx (by omega); omega)))<|lc (Qg 2 (e:= .int) QE QO Yf rfl ⟨_,_,rfl,(Qb rfl),rfl⟩ (List.all_eq_true.1 rfl) ⟨_,_,_,_,rfl,⟨rfl,rfl⟩,⟨rfl,rfl⟩,rfl⟩ (by decide) rfl rfl (Fresh.of rfl) (nlr rfl))<|lc (QQ 3 (Qa rfl) rfl (Qa rfl) rfl rfl QE VB (by first | omega | (simp only[List.length_append,List.length_map,List.length_take,List.length_cons,List.length_nil]; omega) | (simp only[List.length_append,List.length_drop,List.length_take,List.length_cons,List.length_nil]; omega)) rfl (Fresh.of rfl) (nlr rfl)) ?_
  refine w_ ?_
  refine Qk ?_
  refine (?_:AC _ _ _ _ _)
  refine w_ ?_
  refine lc (Qc3 (Qa rfl) (QM rfl) rfl (by first | omega | (have:=hbx (by omega); omega))) ?_
  refine w_ ?_
  refine Qk<|QU ⟨k+1,by omega,rfl,rfl⟩ (by omega) ?_
  exact Wk.of [(1,3)] rfl ⟨rfl,rfl,rfl,rfl,rfl,rfl,trivial⟩ ⟨(Qy (by rw[QW hx7]; simp)),trivial⟩ rfl rfl
theorem Jn (l:List Int)(hl:l.length≤2000000):FC Tryz.prog 305 [(false,[.dat (.sl 3 .int) l])] [] 0 (UC 3 .int l):=by
 refine QN Tryz.func305 rfl rfl Tryz.ntmps305 fun O_ hO w0_ N0_ X_ h0_ f0_=> ?_
 iterate 4 refine w_ ?_
 refine lc (Qg 0 (e:= .int) QE QO Yf rfl rfl (List.all_eq_true.1 rfl) ⟨rfl,rfl⟩ (by decide) rfl rfl (Fresh.of rfl) (nlr rfl)) ?_
 refine w_ ?_
 refine lc (Zj 1 (Qa rfl) rfl (Evl.rep (Qa rfl)) rfl QE VB (by first | omega | (simp only[List.length_append,List.length_map,List.length_take,List.length_cons,List.length_nil]; omega) | (simp only[List.length_append,List.length_drop,List.length_take,List.length_cons,List.length_nil]; omega)) rfl (Fresh.of rfl) (nlr rfl)) ?_
 iterate 2 refine w_ ?_
 refine Qf ?_
 subst hO
 refine ZU (e:= .int) (xs:=(([])++l)) (Qm rfl (Qd rfl)) rfl ?_
 rfl
theorem Qnm {α:Type _}(f:α→Nat){xs:List α}{x:α}(h:x∈xs):f x≤(xs.map f).sum:=by
  induction xs with
  | nil=>cases h
  | cons y ys ih=>
    simp only[List.map_cons,List.sum_cons]
    rcases List.mem_cons.1 h with rfl | h
    · omega
    · have:=ih h; omega
theorem Qfz {n:Y0}(hz:Ty.tot VK n≤2000000):n.2.length≤2000000:=by
  have:Ty.tot VK n=0+(n.2.length+(n.2.map (Ty.tot QT)).sum):=rfl
  omega
theorem Qab {s:Q5}(hz:Ty.tot Y8 s≤2000000):Ty.tot VK s.1≤2000000∧s.2.1.length≤2000000∧s.2.2.1.length≤2000000:=by
  have:Ty.tot Y8 s=Ty.tot VK s.1+((s.2.1.length+(s.2.1.map (Ty.tot ZL)).sum)+((s.2.2.1.length+(s.2.2.1.map (Ty.tot Yl)).sum)+s.2.2.2.size)):=rfl
  omega
theorem K7 {n:Y0}(hz:Ty.tot VK n≤2000000):∀t∈n.2,t.1.length≤2000000∧t.2.length≤2000000:=fun t ht=>by
  have h1:Ty.tot VK n=0+(n.2.length+(n.2.map (Ty.tot QT)).sum):=rfl
  have h2:=Qnm (Ty.tot QT) ht
  have h3:Ty.tot QT t=(t.1.length+(t.1.map (Ty.tot .int)).sum)+(t.2.length+(t.2.map (Ty.tot .int)).sum):=rfl
  omega
theorem QcL (n:Int×(List (List Int×List Int)))(hz:Ty.tot VK n≤2000000):FC Tryz.prog 285 [(true,[dI n.1, .dat (.sl 159 (.pr (.sl 3 .int) (.sl 3 .int))) n.2])] [] 0 (Is (ag [dI n.1, .ref 0]) [(0,some (.arr 159 (.pr (.sl 3 .int) (.sl 3 .int)) n.2))]):=by
 have hm:=Qfz hz
 have hp:=K7 hz
 refine QN Tryz.func285 rfl rfl Tryz.ntmps285 fun O_ hO w0_ N0_ X_ h0_ f0_=> ?_
 refine AC.fact (QG (x:= .tmp 0) (i:=0) (Qb rfl) rfl) fun hi1=> ?_
 refine w_ ?_
 refine lc (Qw 0 (Qb rfl) rfl rfl (Fresh.of rfl) (nlr rfl))<|lc (Qp 1 (.pr .int (.sl 159 (.pr (.sl 3 .int) (.sl 3 .int)))) H8 rfl rfl (Fresh.of rfl) (nlr rfl)) ?_
 iterate 4 refine w_ ?_
 refine lc (QH Qia ⟨_,_,rfl,(Qb rfl),rfl⟩ (List.all_eq_true.1 rfl) rfl rfl)<|lc (Qp 2 (.pr .int (.sl 159 (.pr (.sl 3 .int) (.sl 3 .int)))) H8 rfl rfl (Fresh.of rfl) (nlr rfl))<|lc (Qe (Qa rfl) rfl (Qb rfl) rfl XO rfl) ?_
 iterate 5 refine w_ ?_
 refine AL.fact (Qq (x:= .tmp 10) (Qa rfl)) fun hl2=> ?_
 iterate 4 refine w_ ?_
 refine AC.wk (QR 3 (p:=2) (off:=1) 159 (.pr (.sl 3 .int) (.sl 3 .int)) rfl rfl (Fresh.of rfl) (nlr rfl)) ?_
 refine Qx (fun m_ s_=>∃(k:Nat),k≤n.2.length∧m_=n.2.length - k∧s_=⟨[(2,lP 1 0),(3,lP 2 0),(10,lf (.dat (.sl 159 (.pr (.sl 3 .int) (.sl 3 .int))) n.2)),(11,lI (n.2.length:Int)),(12,lI (k:Int))],[(1,some (.box 35 [dI 0, .val (.slice none 0 0)])),(2,some (.box 35 [dI n.1, .ref 4])),(4,some (.arr 159 (.pr (.sl 3 .int) (.sl 3 .int)) (n.2.take k)))]⟩) ⟨0,Nat.zero_le _,rfl,rfl⟩ ?_ ?_
 · exact Wk.of [(1,1),(2,2),(4,3)] rfl ⟨rfl,rfl,rfl,rfl,rfl,trivial⟩ ⟨rfl,rfl,(Qy (by first | rfl | simp)),trivial⟩ rfl rfl
 rintro m_ s_ ⟨k,hk3,hm4,rfl⟩
 iterate 4 refine w_ ?_
 cases hb5:(decide ((k:Int) < (n.2.length:Int)))
 ·have hb5':=of_decide_eq_false hb5
  refine w_ ?_
  refine QB ?_
  refine (?_:AC _ _ _ _ _)
  iterate 2 refine w_ ?_
  refine lc (Qe (Qa rfl) rfl (Qb rfl) rfl XO rfl) ?_
  refine w_ ?_
  refine Qf ?_
  subst hO
  exact QF _ _ [(0,4)] (Qm rfl (Q3 rfl rfl XO rfl)) (rfl) ⟨(Qy (by rw[Yi (by omega)])),trivial⟩ rfl rfl
 ·have hb5':=of_decide_eq_true hb5
  iterate 5 refine w_ ?_
  obtain ⟨x6,hx7⟩:∃z,n.2[k]? =some z:=⟨_,List.getElem?_eq_getElem (by omega)⟩
  refine lc (Qh (Qa rfl) (Qa rfl) ZO Zh rfl (by omega) hx7) ?_
  refine w_ ?_
  refine lc (Qp 5 (.pr (.sl 3 .int) (.sl 3 .int)) Vq rfl rfl (Fresh.of rfl) (nlr rfl))<|lc (Qe (Qa rfl) rfl (Qb rfl) rfl Zh rfl) ?_
  refine w_ ?_
  refine dv [io 16 (lP 2 1),io 17 (lR 4),io 18 (lP 5 0),io 19 (lf (.dat (.sl 3 .int) x6.1)),⟨some 20,lR 6,[(6,some (.arr 3 .int x6.1))]⟩,io 21 (lP 5 1),io 22 (lf (.dat (.sl 3 .int) x6.2)),⟨some 23,lR 7,[(7,some (.arr 3 .int x6.2))]⟩,io 24 (ag [.ref 6, .ref 7]),⟨some 25,lR 8,[(8,some (.arr 159 (.pr (.sl 3 .int) (.sl 3 .int)) ([(x6.1,x6.2)]))),(6,none),(7,none)]⟩,⟨some 26,lR 9,[(9,some (.arr 159 (.pr (.sl 3 .int) (.sl 3 .int)) ((n.2.take k)++([(x6.1,x6.2)])))),(4,none),(8,none)]⟩,io 27 (lP 2 1),⟨none,lf (.val undef),[(2,some (.box 35 [dI n.1, .ref 9]))]⟩] [0,1,0,4,12,0,32,124,252,508,1023,2047,4095] mixed rfl (by kernel_rfl) ⟨dxf ZW rfl rfl rfl,dxl Y7 rfl rfl rfl rfl rfl,dxf Yo rfl rfl rfl,dxl QI rfl rfl rfl rfl rfl,fun _ h_=>ac (Yq 6 (Jn x6.1 (by have:=hp _ (List.mem_of_getElem? ‹_›); omega)) Qca ⟨_,_,rfl,(h_.w rfl),rfl⟩ rfl (h_.fr 6 rfl) (nlr rfl)) rfl,dxf XY rfl rfl rfl,dxl QI rfl rfl rfl rfl rfl,fun _ h_=>ac (Yq 7 (Jn x6.2 (by have:=hp _ (List.mem_of_getElem? ‹_›); omega)) Qca ⟨_,_,rfl,(h_.w rfl),rfl⟩ rfl (h_.fr 7 rfl) (nlr rfl)) rfl,fun _ h_=>ac (QH Qfc ⟨_,_,rfl,(h_.w rfl),⟨_,_,rfl,(h_.w rfl),rfl⟩⟩ (List.all_eq_true.1 (by simp only[Zx,Wv,List.all_cons,List.all_nil]; rw[(h_.en 6 rfl),(h_.en 7 rfl)]; rfl)) rfl rfl) rfl,fun _ h_=>ac (Qg 8 (e:=(.pr (.sl 3 .int) (.sl 3 .int))) ZO Zh Vq rfl ⟨_,_,rfl,(h_.w rfl),rfl⟩ (List.all_eq_true.1 (by simp only[Zx,Wv,List.all_cons,List.all_nil]; rw[(h_.en 6 rfl),(h_.en 7 rfl)]; rfl)) ⟨_,_,_,_,rfl,⟨[.ref 6],[.ref 7],_,_,_,_,rfl,rfl,(.inl ⟨_,rfl,(h_.en 6 rfl),rfl⟩),(.inl ⟨_,rfl,(h_.en 7 rfl),rfl⟩),rfl⟩,⟨rfl,rfl⟩,rfl⟩ (by decide) rfl rfl (h_.fr 8 rfl) (nlr rfl)) rfl,fun _ h_=>ac (QQ 9 (h_.v rfl) (h_.en 4 rfl) (h_.v rfl) (h_.en 8 rfl) rfl ZO QeR (by first | omega | (simp only[List.length_append,List.length_map,List.length_take,List.length_cons,List.length_nil]; omega) | (simp only[List.length_append,List.length_drop,List.length_take,List.length_cons,List.length_nil]; omega)) rfl (h_.fr 9 rfl) (nlr rfl)) rfl,dxf ZW rfl rfl rfl,fun _ h_=>ac (Qe (h_.v rfl) (h_.en 2 rfl) (h_.w rfl) (by simp only[Zx,Wv,List.all_cons,List.all_nil]; rw[(h_.en 9 rfl)]; rfl) Y7 rfl) rfl,⟨⟩⟩ ?_
  refine (?_:AC _ _ _ _ _)
  iterate 3 refine w_ ?_
  refine Qk<|QU ⟨k+1,by omega,rfl,rfl⟩ (by omega) ?_
  exact Wk.of [(1,1),(2,2),(4,9)] rfl ⟨rfl,rfl,rfl,rfl,rfl,trivial⟩ ⟨rfl,rfl,(Qy (by rw[QW hx7])),trivial⟩ rfl rfl
theorem Qdx (s:(Int×(List (List Int×List Int)))×(List (ByteArray×Int))×(List (Int×Bool))×ByteArray)(hz:Ty.tot Y8 s≤2000000):FC Tryz.prog 246 [(true,[dI s.1.1, .dat (.sl 159 (.pr (.sl 3 .int) (.sl 3 .int))) s.1.2, .dat (.sl 145 (.pr .str .int)) s.2.1, .dat (.sl 61 (.pr .int .bool)) s.2.2.1,dS s.2.2.2])] [] 0 (Is (ag [dI s.1.1, .ref 0, .ref 1, .ref 2,dS s.2.2.2]) [(0,some (.arr 159 (.pr (.sl 3 .int) (.sl 3 .int)) s.1.2)),(1,some (.arr 145 (.pr .str .int) s.2.1)),(2,some (.arr 61 (.pr .int .bool) s.2.2.1))]):=by
 obtain ⟨hz1,hz2,hz3⟩:=Qab hz
 refine QN Tryz.func246 rfl rfl Tryz.ntmps246 fun O_ hO w0_ N0_ X_ h0_ f0_=> ?_
 refine AC.fact (QG (x:= .tmp 0) (i:=0) (Qb rfl) rfl) fun hi1=> ?_
 refine w_ ?_
 refine lc (Qw 0 (Qb rfl) rfl rfl (Fresh.of rfl) (nlr rfl))<|lc (Qp 1 (.pr (.pr .int (.sl 159 (.pr (.sl 3 .int) (.sl 3 .int)))) (.pr (.sl 145 (.pr .str .int)) (.pr (.sl 61 (.pr .int .bool)) .str))) XH rfl rfl (Fresh.of rfl) (nlr rfl)) ?_
 refine w_ ?_
 refine dw [io 3 (lP 0 0),io 4 (ag [dI s.1.1, .dat (.sl 159 (.pr (.sl 3 .int) (.sl 3 .int))) s.1.2]),⟨some 5,ag [dI s.1.1, .ref 2],[(2,some (.arr 159 (.pr (.sl 3 .int) (.sl 3 .int)) s.1.2))]⟩,⟨some 6,lR 3,[(3,some (.arr 145 (.pr .str .int) ([])))]⟩,io 7 (lP 0 2),io 8 (lf (.dat (.sl 145 (.pr .str .int)) s.2.1)),⟨some 9,lR 4,[(4,some (.arr 145 (.pr .str .int) (([])++s.2.1))),(3,none)]⟩,⟨some 10,lR 5,[(5,some (.arr 61 (.pr .int .bool) ([])))]⟩,io 11 (lP 0 3),io 12 (lf (.dat (.sl 61 (.pr .int .bool)) s.2.2.1)),⟨some 13,lR 6,[(6,some (.arr 61 (.pr .int .bool) (([])++s.2.2.1))),(5,none)]⟩,io 14 (lP 0 4),io 15 (lf (dS s.2.2.2)),io 16 (ag [dI s.1.1, .ref 2, .ref 4, .ref 6,dS s.2.2.2]),⟨none,lf (.val undef),[(1,some (.box 39 [dI s.1.1, .ref 2, .ref 4, .ref 6,dS s.2.2.2]))]⟩] [0,1,3,0,0,16,63,0,0,256,1023,0,2048,8191,16383] mixed rfl (by kernel_rfl) ⟨dxf ZP rfl rfl rfl,dxa XO rfl rfl rfl rfl,fun _ h_=>ac (Q6 2 (QcL s.1 hz1) QiM ⟨_,_,rfl,(h_.w rfl),rfl⟩ rfl rfl ⟨(h_.fr 2 rfl),trivial⟩ (nlr rfl)) rfl,fun _ h_=>ac (Qg 3 (e:=(.pr .str .int)) YQ Z4 K1 rfl rfl (List.all_eq_true.1 rfl) ⟨rfl,rfl⟩ (by decide) rfl rfl (h_.fr 3 rfl) (nlr rfl)) rfl,dxf Hg rfl rfl rfl,dxl QeI rfl rfl rfl rfl rfl,fun _ h_=>ac (Zj 4 (h_.v rfl) (h_.en 3 rfl) (Evl.rep (h_.v rfl)) rfl YQ Qbc (by simp only[List.length_nil]; omega) rfl (h_.fr 4 rfl) (nlr rfl)) rfl,fun _ h_=>ac (Qg 5 (e:=(.pr .int .bool)) X2 Yr JY rfl rfl (List.all_eq_true.1 rfl) ⟨rfl,rfl⟩ (by decide) rfl rfl (h_.fr 5 rfl) (nlr rfl)) rfl,dxf QcA rfl rfl rfl,dxl Qim rfl rfl rfl rfl rfl,fun _ h_=>ac (Zj 6 (h_.v rfl) (h_.en 5 rfl) (Evl.rep (h_.v rfl)) rfl X2 QmJ (by simp only[List.length_nil]; omega) rfl (h_.fr 6 rfl) (nlr rfl)) rfl,dxf V7 rfl rfl rfl,dxl Ze rfl rfl rfl rfl rfl,fun _ h_=>ac (QH WY ⟨_,_,rfl,(h_.w rfl),⟨_,_,rfl,(h_.w rfl),⟨_,_,rfl,(h_.w rfl),⟨_,_,rfl,(h_.w rfl),rfl⟩⟩⟩⟩ (List.all_eq_true.1 (by simp only[Zx,Wv,List.all_cons,List.all_nil]; rw[(h_.en 2 rfl),(h_.en 4 rfl),(h_.en 6 rfl)]; rfl)) rfl rfl) rfl,fun _ h_=>ac (Qe (h_.v rfl) (h_.en 1 rfl) (h_.w rfl) (by simp only[Zx,Wv,List.all_cons,List.all_nil]; rw[(h_.en 2 rfl),(h_.en 4 rfl),(h_.en 6 rfl)]; rfl) Q9 rfl) rfl,⟨⟩⟩<|Qf ?_
 subst hO
 exact QF _ _ [(0,2),(1,4),(2,6)] (Qm rfl (Q3 rfl rfl Q9 rfl)) (rfl) ⟨rfl,(Qy (by rfl)),(Qy (by rfl)),trivial⟩ rfl rfl
def Qnl (b:Int)(t:QJ):QJ:=(t.1.map fun x=>x+b,t.2.map fun x=>x+b)
theorem Hp (a:Int×(List (List Int×List Int)))(b:Int×(List (List Int×List Int)))(hz:Ty.tot VK a≤2000000)(hz2:Ty.tot VK b≤2000000)(hs: -9223372036854775808≤a.1+b.1∧a.1+b.1≤9223372036854775807)(hb:∀t∈b.2,(∀x∈t.1, -9223372036854775808≤x+a.1∧x+a.1≤9223372036854775807)∧∀x∈t.2, -9223372036854775808≤x+a.1∧x+a.1≤9223372036854775807):FC Tryz.prog 306 [(true,[dI a.1, .dat (.sl 159 (.pr (.sl 3 .int) (.sl 3 .int))) a.2]),(true,[dI b.1, .dat (.sl 159 (.pr (.sl 3 .int) (.sl 3 .int))) b.2])] [] 0 (Is (ag [dI (a.1+b.1), .ref 0]) [(0,some (.arr 159 (.pr (.sl 3 .int) (.sl 3 .int)) (a.2++b.2.map (Qnl a.1))))]):=by
 have hm:=Qfz hz
 have hp:=K7 hz
 have hm2:=Qfz hz2
 have hp2:=K7 hz2
 refine QN Tryz.func306 rfl rfl Tryz.ntmps306 fun O_ hO w0_ N0_ X_ h0_ f0_=> ?_
 refine AC.fact (QG (x:= .tmp 0) (i:=0) (Qb rfl) rfl) fun hi1=>AC.fact (QG (x:= .tmp 1) (i:=0) (Qb rfl) rfl) fun hi2=> ?_
 refine w_ ?_
 refine lc (Qw 0 (Qb rfl) rfl rfl (Fresh.of rfl) (nlr rfl))<|lc (Qw 1 (Qb rfl) rfl rfl (Fresh.of rfl) (nlr rfl))<|lc (Qp 2 (.pr .int (.sl 159 (.pr (.sl 3 .int) (.sl 3 .int)))) H8 rfl rfl (Fresh.of rfl) (nlr rfl)) ?_
 iterate 7 refine w_ ?_
 refine lc (QH Qia ⟨_,_,rfl,(Qb rfl),rfl⟩ (List.all_eq_true.1 rfl) rfl rfl)<|lc (Qp 3 (.pr .int (.sl 159 (.pr (.sl 3 .int) (.sl 3 .int)))) H8 rfl rfl (Fresh.of rfl) (nlr rfl))<|lc (Qe (Qa rfl) rfl (Qb rfl) rfl XO rfl) ?_
 iterate 5 refine w_ ?_
 refine AL.fact (Qq (x:= .tmp 17) (Qa rfl)) fun hl3=> ?_
 iterate 4 refine w_ ?_
 refine AC.wk (QR 4 (p:=3) (off:=1) 159 (.pr (.sl 3 .int) (.sl 3 .int)) rfl rfl (Fresh.of rfl) (nlr rfl)) ?_
 refine Qx (fun m_ s_=>∃(k:Nat),k≤a.2.length∧m_=a.2.length - k∧s_=⟨[(2,lP 0 0),(3,lP 1 0),(4,lP 2 0),(5,lP 3 0),(17,lf (.dat (.sl 159 (.pr (.sl 3 .int) (.sl 3 .int))) a.2)),(18,lI (a.2.length:Int)),(19,lI (k:Int))],[(0,some (.box 35 [dI a.1, .dat (.sl 159 (.pr (.sl 3 .int) (.sl 3 .int))) a.2])),(1,some (.box 35 [dI b.1, .dat (.sl 159 (.pr (.sl 3 .int) (.sl 3 .int))) b.2])),(2,some (.box 35 [dI 0, .val (.slice none 0 0)])),(3,some (.box 35 [dI (a.1+b.1), .ref 5])),(5,some (.arr 159 (.pr (.sl 3 .int) (.sl 3 .int)) (a.2.take k)))]⟩) ⟨0,Nat.zero_le _,rfl,rfl⟩ ?_ ?_
 · exact Wk.of [(0,0),(1,1),(2,2),(3,3),(5,4)] rfl ⟨rfl,rfl,rfl,rfl,rfl,rfl,rfl,trivial⟩ ⟨rfl,rfl,rfl,rfl,(Qy (by first | rfl | simp)),trivial⟩ rfl rfl
 rintro m_ s_ ⟨k,hk4,hm5,rfl⟩
 iterate 4 refine w_ ?_
 cases hb6:(decide ((k:Int) < (a.2.length:Int)))
 ·have hb6':=of_decide_eq_false hb6
  refine w_ ?_
  refine QB ?_
  refine (?_:AC _ _ _ _ _)
  iterate 4 refine w_ ?_
  refine AL.fact (Qq (x:= .tmp 37) (Qa rfl)) fun hl7=> ?_
  iterate 4 refine w_ ?_
  refine Qx (fun m_ s_=>∃(k:Nat),k≤b.2.length∧m_=b.2.length - k∧s_=⟨[(2,lP 0 0),(4,lP 2 0),(5,lP 3 0),(37,lf (.dat (.sl 159 (.pr (.sl 3 .int) (.sl 3 .int))) b.2)),(38,lI (b.2.length:Int)),(39,lI (k:Int))],[(0,some (.box 35 [dI a.1, .dat (.sl 159 (.pr (.sl 3 .int) (.sl 3 .int))) a.2])),(2,some (.box 35 [dI 0, .val (.slice none 0 0)])),(3,some (.box 35 [dI (a.1+b.1), .ref 6])),(6,some (.arr 159 (.pr (.sl 3 .int) (.sl 3 .int)) (a.2++(b.2.take k).map (Qnl a.1))))]⟩) ⟨0,Nat.zero_le _,rfl,rfl⟩ ?_ ?_
  · exact Wk.of [(0,0),(2,2),(3,3),(6,5)] rfl ⟨rfl,rfl,rfl,rfl,rfl,rfl,trivial⟩ ⟨rfl,rfl,rfl,(Qy (by rw[Yi (by omega)]; simp)),trivial⟩ rfl rfl
  rintro m_ s_ ⟨k,hk8,hm9,rfl⟩
  iterate 4 refine w_ ?_
  cases hb10:(decide ((k:Int) < (b.2.length:Int)))
  ·have hb10':=of_decide_eq_false hb10
   refine w_ ?_
   refine QB ?_
   refine (?_:AC _ _ _ _ _)
   iterate 2 refine w_ ?_
   refine lc (Qe (Qa rfl) rfl (Qb rfl) rfl XO rfl) ?_
   refine w_ ?_
   refine Qf ?_
   subst hO
   exact QF _ _ [(0,6)] (Qm rfl (Q3 rfl rfl XO rfl)) (rfl) ⟨(Qy (by rw[Yi (by omega)])),trivial⟩ rfl rfl
  ·have hb10':=of_decide_eq_true hb10
   iterate 5 refine w_ ?_
   obtain ⟨x11,hx12⟩:∃z,b.2[k]? =some z:=⟨_,List.getElem?_eq_getElem (by omega)⟩
   refine lc (Qh (Qa rfl) (Qa rfl) ZO Zh rfl (by omega) hx12) ?_
   refine w_ ?_
   refine lc (Qp 7 (.pr (.sl 3 .int) (.sl 3 .int)) Vq rfl rfl (Fresh.of rfl) (nlr rfl))<|lc (Qe (Qa rfl) rfl (Qb rfl) rfl Zh rfl) ?_
   refine w_ ?_
   refine dv [io 43 (lP 3 1),io 44 (lR 6),io 45 (lP 7 0),io 46 (lf (.dat (.sl 3 .int) x11.1)),io 47 (lP 0 0),io 48 (lI a.1),⟨some 49,lR 8,[(8,some (.arr 3 .int (x11.1.map fun x=>x+a.1)))]⟩,io 50 (lP 7 1),io 51 (lf (.dat (.sl 3 .int) x11.2)),io 52 (lP 0 0),io 53 (lI a.1),⟨some 54,lR 9,[(9,some (.arr 3 .int (x11.2.map fun x=>x+a.1)))]⟩,io 55 (ag [.ref 8, .ref 9]),⟨some 56,lR 10,[(10,some (.arr 159 (.pr (.sl 3 .int) (.sl 3 .int)) ([(x11.1.map fun x=>x+a.1,x11.2.map fun x=>x+a.1)]))),(8,none),(9,none)]⟩,⟨some 57,lR 11,[(11,some (.arr 159 (.pr (.sl 3 .int) (.sl 3 .int)) ((a.2++(b.2.take k).map (Qnl a.1))++([(x11.1.map fun x=>x+a.1,x11.2.map fun x=>x+a.1)])))),(6,none),(10,none)]⟩,io 58 (lP 3 1),⟨none,lf (.val undef),[(3,some (.box 35 [dI (a.1+b.1), .ref 11]))]⟩] [0,1,0,4,0,16,60,0,128,0,512,2044,4092,8188,16383,32767,65535] mixed rfl (by kernel_rfl) ⟨dxf ZW rfl rfl rfl,dxl Y7 rfl rfl rfl rfl rfl,dxf Yo rfl rfl rfl,dxl QI rfl rfl rfl rfl rfl,dxf Qdi rfl rfl rfl,dxl QO rfl rfl rfl rfl rfl,fun _ h_=>ac (Yq 8 (X8 x11.1 a.1 (hp2 _ (List.mem_of_getElem? hx12)).1 (fun x hx _=>(hb _ (List.mem_of_getElem? hx12)).1 x hx)) UI ⟨_,_,rfl,(h_.w rfl),⟨_,_,rfl,(h_.w rfl),rfl⟩⟩ rfl (h_.fr 8 rfl) (nlr rfl)) rfl,dxf XY rfl rfl rfl,dxl QI rfl rfl rfl rfl rfl,dxf Qdi rfl rfl rfl,dxl QO rfl rfl rfl rfl rfl,fun _ h_=>ac (Yq 9 (X8 x11.2 a.1 (hp2 _ (List.mem_of_getElem? hx12)).2 (fun x hx _=>(hb _ (List.mem_of_getElem? hx12)).2 x hx)) UI ⟨_,_,rfl,(h_.w rfl),⟨_,_,rfl,(h_.w rfl),rfl⟩⟩ rfl (h_.fr 9 rfl) (nlr rfl)) rfl,fun _ h_=>ac (QH Qfc ⟨_,_,rfl,(h_.w rfl),⟨_,_,rfl,(h_.w rfl),rfl⟩⟩ (List.all_eq_true.1 (by simp only[Zx,Wv,List.all_cons,List.all_nil]; rw[(h_.en 8 rfl),(h_.en 9 rfl)]; rfl)) rfl rfl) rfl,fun _ h_=>ac (Qg 10 (e:=(.pr (.sl 3 .int) (.sl 3 .int))) ZO Zh Vq rfl ⟨_,_,rfl,(h_.w rfl),rfl⟩ (List.all_eq_true.1 (by simp only[Zx,Wv,List.all_cons,List.all_nil]; rw[(h_.en 8 rfl),(h_.en 9 rfl)]; rfl)) ⟨_,_,_,_,rfl,⟨[.ref 8],[.ref 9],_,_,_,_,rfl,rfl,(.inl ⟨_,rfl,(h_.en 8 rfl),rfl⟩),(.inl ⟨_,rfl,(h_.en 9 rfl),rfl⟩),rfl⟩,⟨rfl,rfl⟩,rfl⟩ (by decide) rfl rfl (h_.fr 10 rfl) (nlr rfl)) rfl,fun _ h_=>ac (QQ 11 (h_.v rfl) (h_.en 6 rfl) (h_.v rfl) (h_.en 10 rfl) rfl ZO QeR (by simp only[List.length_append,List.length_map,List.length_take,List.length_cons,List.length_nil]; omega) rfl (h_.fr 11 rfl) (nlr rfl)) rfl,dxf ZW rfl rfl rfl,fun _ h_=>ac (Qe (h_.v rfl) (h_.en 3 rfl) (h_.w rfl) (by simp only[Zx,Wv,List.all_cons,List.all_nil]; rw[(h_.en 11 rfl)]; rfl) Y7 rfl) rfl,⟨⟩⟩ ?_
   refine (?_:AC _ _ _ _ _)
   iterate 3 refine w_ ?_
   refine Qk<|QU ⟨k+1,by omega,rfl,rfl⟩ (by omega) ?_
   exact Wk.of [(0,0),(2,2),(3,3),(6,11)] rfl ⟨rfl,rfl,rfl,rfl,rfl,rfl,trivial⟩ ⟨rfl,rfl,rfl,(Qy (by rw[QW hx12]; simp[Qnl])),trivial⟩ rfl rfl
 ·have hb6':=of_decide_eq_true hb6
  iterate 5 refine w_ ?_
  obtain ⟨x13,hx14⟩:∃z,a.2[k]? =some z:=⟨_,List.getElem?_eq_getElem (by omega)⟩
  refine lc (Qh (Qa rfl) (Qa rfl) ZO Zh rfl (by omega) hx14) ?_
  refine w_ ?_
  refine lc (Qp 12 (.pr (.sl 3 .int) (.sl 3 .int)) Vq rfl rfl (Fresh.of rfl) (nlr rfl))<|lc (Qe (Qa rfl) rfl (Qb rfl) rfl Zh rfl) ?_
  refine w_ ?_
  refine dv [io 23 (lP 3 1),io 24 (lR 5),io 25 (lP 12 0),io 26 (lf (.dat (.sl 3 .int) x13.1)),⟨some 27,lR 13,[(13,some (.arr 3 .int (x13.1.map fun x=>x+0)))]⟩,io 28 (lP 12 1),io 29 (lf (.dat (.sl 3 .int) x13.2)),⟨some 30,lR 14,[(14,some (.arr 3 .int (x13.2.map fun x=>x+0)))]⟩,io 31 (ag [.ref 13, .ref 14]),⟨some 32,lR 15,[(15,some (.arr 159 (.pr (.sl 3 .int) (.sl 3 .int)) ([(x13.1.map fun x=>x+0,x13.2.map fun x=>x+0)]))),(13,none),(14,none)]⟩,⟨some 33,lR 16,[(16,some (.arr 159 (.pr (.sl 3 .int) (.sl 3 .int)) ((a.2.take k)++([(x13.1.map fun x=>x+0,x13.2.map fun x=>x+0)])))),(5,none),(15,none)]⟩,io 34 (lP 3 1),⟨none,lf (.val undef),[(3,some (.box 35 [dI (a.1+b.1), .ref 16]))]⟩] [0,1,0,4,12,0,32,124,252,508,1023,2047,4095] mixed rfl (by kernel_rfl) ⟨dxf ZW rfl rfl rfl,dxl Y7 rfl rfl rfl rfl rfl,dxf Yo rfl rfl rfl,dxl QI rfl rfl rfl rfl rfl,fun _ h_=>ac (Yq 13 (X8 x13.1 0 (hp _ (List.mem_of_getElem? hx14)).1 (fun x _ h=>by simpa using h)) UI ⟨_,_,rfl,(h_.w rfl),⟨_,_,rfl,(Evl.ev (QM rfl)),rfl⟩⟩ rfl (h_.fr 13 rfl) (nlr rfl)) rfl,dxf XY rfl rfl rfl,dxl QI rfl rfl rfl rfl rfl,fun _ h_=>ac (Yq 14 (X8 x13.2 0 (hp _ (List.mem_of_getElem? hx14)).2 (fun x _ h=>by simpa using h)) UI ⟨_,_,rfl,(h_.w rfl),⟨_,_,rfl,(Evl.ev (QM rfl)),rfl⟩⟩ rfl (h_.fr 14 rfl) (nlr rfl)) rfl,fun _ h_=>ac (QH Qfc ⟨_,_,rfl,(h_.w rfl),⟨_,_,rfl,(h_.w rfl),rfl⟩⟩ (List.all_eq_true.1 (by simp only[Zx,Wv,List.all_cons,List.all_nil]; rw[(h_.en 13 rfl),(h_.en 14 rfl)]; rfl)) rfl rfl) rfl,fun _ h_=>ac (Qg 15 (e:=(.pr (.sl 3 .int) (.sl 3 .int))) ZO Zh Vq rfl ⟨_,_,rfl,(h_.w rfl),rfl⟩ (List.all_eq_true.1 (by simp only[Zx,Wv,List.all_cons,List.all_nil]; rw[(h_.en 13 rfl),(h_.en 14 rfl)]; rfl)) ⟨_,_,_,_,rfl,⟨[.ref 13],[.ref 14],_,_,_,_,rfl,rfl,(.inl ⟨_,rfl,(h_.en 13 rfl),rfl⟩),(.inl ⟨_,rfl,(h_.en 14 rfl),rfl⟩),rfl⟩,⟨rfl,rfl⟩,rfl⟩ (by decide) rfl rfl (h_.fr 15 rfl) (nlr rfl)) rfl,fun _ h_=>ac (QQ 16 (h_.v rfl) (h_.en 5 rfl) (h_.v rfl) (h_.en 15 rfl) rfl ZO QeR (by simp only[List.length_append,List.length_map,List.length_take,List.length_cons,List.length_nil]; omega) rfl (h_.fr 16 rfl) (nlr rfl)) rfl,dxf ZW rfl rfl rfl,fun _ h_=>ac (Qe (h_.v rfl) (h_.en 3 rfl) (h_.w rfl) (by simp only[Zx,Wv,List.all_cons,List.all_nil]; rw[(h_.en 16 rfl)]; rfl) Y7 rfl) rfl,⟨⟩⟩ ?_
  refine (?_:AC _ _ _ _ _)
  iterate 3 refine w_ ?_
  refine Qk<|QU ⟨k+1,by omega,rfl,rfl⟩ (by omega) ?_
  exact Wk.of [(0,0),(1,1),(2,2),(3,3),(5,16)] rfl ⟨rfl,rfl,rfl,rfl,rfl,rfl,rfl,trivial⟩ ⟨rfl,rfl,rfl,rfl,(Qy (by rw[QW hx14]; simp)),trivial⟩ rfl rfl
theorem QaY (n:Int×(List (List Int×List Int)))(hz:Ty.tot VK n≤2000000):FC Tryz.prog 286 [(true,[dI n.1, .dat (.sl 159 (.pr (.sl 3 .int) (.sl 3 .int))) n.2])] [] 0 (Is (ag [dI n.1, .ref 0]) [(0,some (.arr 159 (.pr (.sl 3 .int) (.sl 3 .int)) n.2))]):=by
 refine QN Tryz.func286 rfl rfl Tryz.ntmps286 fun O_ hO w0_ N0_ X_ h0_ f0_=> ?_
 refine AC.fact (QG (x:= .tmp 0) (i:=0) (Qb rfl) rfl) fun hi1=> ?_
 refine w_ ?_
 refine lc (Qw 0 (Qb rfl) rfl rfl (Fresh.of rfl) (nlr rfl))<|lc (Qp 1 (.pr .int (.sl 159 (.pr (.sl 3 .int) (.sl 3 .int)))) H8 rfl rfl (Fresh.of rfl) (nlr rfl)) ?_
 iterate 3 refine w_ ?_
 refine lc (QH Qia rfl (List.all_eq_true.1 rfl) rfl rfl)<|lc (Q6 2 (Hp n (0,([]:((.sl 159 (.pr (.sl 3 .int) (.sl 3 .int))):Ty).Den)) hz (by decide) (by simpa using hi1) (by simp)) QhO ⟨_,_,rfl,(Qb rfl),⟨_,_,rfl,(Ev.nils (Qb rfl) ⟨_,_,rfl, .inl rfl,⟨_,_,rfl, .inr ⟨_,_,rfl,rfl⟩,rfl⟩⟩),rfl⟩⟩ rfl rfl ⟨Fresh.of rfl,trivial⟩ (nlr rfl))<|lc (Qe (Qa rfl) rfl (Qb rfl) rfl XO rfl) ?_
 refine w_ ?_
 refine Qf ?_
 subst hO
 have e2:(n.1+(0,([]:((.sl 159 (.pr (.sl 3 .int) (.sl 3 .int))):Ty).Den)).1:Int)=n.1:=by
  simp
 exact QF _ _ [(0,2)] (Qm rfl (Q3 rfl rfl XO rfl)) ((congrArg (fun z_=>ag [dI z_, .ref 2]) e2)) ⟨(Qy (by simp)),trivial⟩ rfl rfl
theorem QaT (s:(Int×(List (List Int×List Int)))×(List (ByteArray×Int))×(List (Int×Bool))×ByteArray)(hz:Ty.tot Y8 s≤2000000):FC Tryz.prog 247 [(true,[dI s.1.1, .dat (.sl 159 (.pr (.sl 3 .int) (.sl 3 .int))) s.1.2, .dat (.sl 145 (.pr .str .int)) s.2.1, .dat (.sl 61 (.pr .int .bool)) s.2.2.1,dS s.2.2.2])] [] 0 (Is (ag [dI s.1.1, .ref 0, .ref 1, .ref 2,dS s.2.2.2]) [(0,some (.arr 159 (.pr (.sl 3 .int) (.sl 3 .int)) s.1.2)),(1,some (.arr 145 (.pr .str .int) s.2.1)),(2,some (.arr 61 (.pr .int .bool) s.2.2.1))]):=by
 obtain ⟨hz1,hz2,hz3⟩:=Qab hz
 refine QN Tryz.func247 rfl rfl Tryz.ntmps247 fun O_ hO w0_ N0_ X_ h0_ f0_=> ?_
 refine AC.fact (QG (x:= .tmp 0) (i:=0) (Qb rfl) rfl) fun hi1=> ?_
 refine w_ ?_
 refine lc (Qw 0 (Qb rfl) rfl rfl (Fresh.of rfl) (nlr rfl))<|lc (Qp 1 (.pr (.pr .int (.sl 159 (.pr (.sl 3 .int) (.sl 3 .int)))) (.pr (.sl 145 (.pr .str .int)) (.pr (.sl 61 (.pr .int .bool)) .str))) XH rfl rfl (Fresh.of rfl) (nlr rfl)) ?_
 refine w_ ?_
 refine dw [io 3 (lP 0 0),io 4 (ag [dI s.1.1, .dat (.sl 159 (.pr (.sl 3 .int) (.sl 3 .int))) s.1.2]),⟨some 5,ag [dI s.1.1, .ref 2],[(2,some (.arr 159 (.pr (.sl 3 .int) (.sl 3 .int)) s.1.2))]⟩,⟨some 6,lR 3,[(3,some (.arr 145 (.pr .str .int) ([])))]⟩,io 7 (lP 0 2),io 8 (lf (.dat (.sl 145 (.pr .str .int)) s.2.1)),⟨some 9,lR 4,[(4,some (.arr 145 (.pr .str .int) (([])++s.2.1))),(3,none)]⟩,⟨some 10,lR 5,[(5,some (.arr 61 (.pr .int .bool) ([])))]⟩,io 11 (lP 0 3),io 12 (lf (.dat (.sl 61 (.pr .int .bool)) s.2.2.1)),⟨some 13,lR 6,[(6,some (.arr 61 (.pr .int .bool) (([])++s.2.2.1))),(5,none)]⟩,io 14 (lP 0 4),io 15 (lf (dS s.2.2.2)),io 16 (ag [dI s.1.1, .ref 2, .ref 4, .ref 6,dS s.2.2.2]),⟨none,lf (.val undef),[(1,some (.box 39 [dI s.1.1, .ref 2, .ref 4, .ref 6,dS s.2.2.2]))]⟩] [0,1,3,0,0,16,63,0,0,256,1023,0,2048,8191,16383] mixed rfl (by kernel_rfl) ⟨dxf ZP rfl rfl rfl,dxa XO rfl rfl rfl rfl,fun _ h_=>ac (Q6 2 (QaY s.1 hz1) Qii ⟨_,_,rfl,(h_.w rfl),rfl⟩ rfl rfl ⟨(h_.fr 2 rfl),trivial⟩ (nlr rfl)) rfl,fun _ h_=>ac (Qg 3 (e:=(.pr .str .int)) YQ Z4 K1 rfl rfl (List.all_eq_true.1 rfl) ⟨rfl,rfl⟩ (by decide) rfl rfl (h_.fr 3 rfl) (nlr rfl)) rfl,dxf Hg rfl rfl rfl,dxl QeI rfl rfl rfl rfl rfl,fun _ h_=>ac (Zj 4 (h_.v rfl) (h_.en 3 rfl) (Evl.rep (h_.v rfl)) rfl YQ Qbc (by simp only[List.length_nil]; omega) rfl (h_.fr 4 rfl) (nlr rfl)) rfl,fun _ h_=>ac (Qg 5 (e:=(.pr .int .bool)) X2 Yr JY rfl rfl (List.all_eq_true.1 rfl) ⟨rfl,rfl⟩ (by decide) rfl rfl (h_.fr 5 rfl) (nlr rfl)) rfl,dxf QcA rfl rfl rfl,dxl Qim rfl rfl rfl rfl rfl,fun _ h_=>ac (Zj 6 (h_.v rfl) (h_.en 5 rfl) (Evl.rep (h_.v rfl)) rfl X2 QmJ (by simp only[List.length_nil]; omega) rfl (h_.fr 6 rfl) (nlr rfl)) rfl,dxf V7 rfl rfl rfl,dxl Ze rfl rfl rfl rfl rfl,fun _ h_=>ac (QH WY ⟨_,_,rfl,(h_.w rfl),⟨_,_,rfl,(h_.w rfl),⟨_,_,rfl,(h_.w rfl),⟨_,_,rfl,(h_.w rfl),rfl⟩⟩⟩⟩ (List.all_eq_true.1 (by simp only[Zx,Wv,List.all_cons,List.all_nil]; rw[(h_.en 2 rfl),(h_.en 4 rfl),(h_.en 6 rfl)]; rfl)) rfl rfl) rfl,fun _ h_=>ac (Qe (h_.v rfl) (h_.en 1 rfl) (h_.w rfl) (by simp only[Zx,Wv,List.all_cons,List.all_nil]; rw[(h_.en 2 rfl),(h_.en 4 rfl),(h_.en 6 rfl)]; rfl) Q9 rfl) rfl,⟨⟩⟩<|Qf ?_
 subst hO
 exact QF _ _ [(0,2),(1,4),(2,6)] (Qm rfl (Q3 rfl rfl Q9 rfl)) (rfl) ⟨rfl,(Qy (by rfl)),(Qy (by rfl)),trivial⟩ rfl rfl
end Go.Proofs.YtnakmhfjafecpaaGreat
