/- Abstract states: a slice whose capacity is its length, and what is appended to it. No program is named here. -/
import Derived.Test.YtfkmmpfdncopdaaGreatNAt
import Derived.Test.YtfkmmpfdncopdaaGreatNAg
import Derived.ArgAppend
import Derived.Laws.Shifts
import Derived.Laws.BitsAllLaws
import Derived.Test.YtfkmmpfdncopdaaGreatNAf
import Derived.Test.YtfkmmpfdncopdaaGreatNAk
import Derived.Sort.EveryDepth
import Derived.Sort.OwnSortedInts
import Derived.Shelf.Sort.AssemblyIn
import Derived.Sort.OwnSorted
import Derived.Shelf.Sort.AssemblysIn
import Derived.Shelf.Lays
import Derived.Shelf.Slices.In.SortNone
import Derived.Test.YtfkmmpfdncopdaaGreatNAi
import Derived.Test.YtfkmmpfdncopdaaGreatNApp
import Derived.Test.YtfkmmpfdncopdaaGreatNStr
import Derived.Test.YtfkmmpfdncopdaaGreatProg
import Derived.KernelRfl
import Derived.Test.YtfkmmpfdncopdaaGreatNAl
set_option linter.unusedSimpArgs false
set_option linter.unusedVariables false
set_option linter.unusedSectionVars false
namespace Go.Proofs.YtfkmmpfdncopdaaGreat
open Go.RowKit
def clR (E:TypeId)(e:Ty)(xs:List e.Den):Rsc where
  rel N w f v:=f=[]∧∃ad,v= .slice ad xs.length xs.length∧Rd N (.sl E e) w [v] xs
  fl:=false
  keep:=fun ⟨h1,ad,h2,h3⟩ _ h=>⟨h1,ad,h2,h3.mono h⟩
  lt:=fun ⟨h1,_⟩ g hg=>by rw[h1] at hg; cases hg
  one:=fun ⟨_,ad,h,_⟩=>by rw[h]; rfl
  noN:=fun h=>by cases h
section
variable {A:Amb}{P:Program}{s:St}{x y:Operand}{d:Nat}{T T' ty:TypeId}{pos:String}{af:Array Edge}{g:Option (Nat×Bool)}
theorem Rg.addR {gh:Gh}{a:Act}{w:World}(r:Rg A s gh a w){t:Nat}{R:Rsc}{u:Value}(hfr:Fresh s t)(hk:A.k0≤t)(h:R.rel gh.N w [] u):
    Rg A ⟨s.tm,(t,some (.res R)) :: s.tab⟩ ⟨upd gh.h t u,upd gh.f t [],gh.N⟩ a w:=
  r.redo (fun v=>v=t) rfl (fun v hv=>⟨by rw[Qh,if_neg hv],WX _ _ hv,WX _ _ hv⟩) (fun v e' hv he'=>by
    have hv:v=t:=hv
    subst hv
    rw[Qh,if_pos rfl] at he'
    cases he'
    refine ⟨fun al=> ?_, ?_,fun g hg=> ?_, .inr ⟨hfr,hk⟩⟩
    · show R.rel gh.N w (upd gh.f v [] v) (upd gh.h v u v)
      rw[Y4,Y4]; exact h
    · show (upd gh.f v [] v).Nodup
      rw[Y4]; exact bt
    · have hg : g ∈ upd gh.f v [] v := hg
      rw[Y4] at hg; cases hg) (fun v v' hv hv' _ _ hn=>absurd (Eq.trans hv (Eq.symm hv')) hn) (ZE w) fun _ _ _=>rfl
def gtB (m n:ByteArray):Bool:= !Op.bytesLess m.toList n.toList&& !decide (m=n)
theorem Qlb {m n:ByteArray}(hx:Evl A s x (dS m))(hy:Evl A s y (dS n))(hn:Nat.blt d A.n=true):Does A P ⟨some d, .binOp .gtr T x y T',ty,pos,af,g⟩ s (s.put d (lf (dB (gtB m n)))):=
  Qg rfl hn fun gh a w r=>⟨.bool (gtB m n),by
    have h1:=hx.st r
    have h2:=hy.st r
    simp only[execOp,h1,h2,eqGuard_at_string,binOp,Op.stringOp,gtB]
    simp[U1],_,rfl,ZC⟩
theorem QjV {len cap:Nat}{w:World}{n:Int}(h:n=(len:Int))(hc:len≤cap):
    (Instr.sliceBounds true len cap none (some (.int .i64 n)) (some (.int .i64 n))).run P w= .ok (0,len,len) w:=by
  subst h
  simp only[Instr.sliceBounds,Instr.sliceBound,asIntOf,aw,b5,aH,Go.Sem.run_ite]
  rw[if_pos (by omega)]
  simp
theorem QfS (t:Nat){E:TypeId}{e:Ty}{xs:List e.Den}{hi mx:Operand}{n:Int}{bb:Bool}(hx:Evl A s x (.dat (.sl E e) xs))(hhi:opI A s (some hi) (some n))(hmx:opI A s (some mx) (some n)){E':TypeId}(hT:P.underlying T=some (.slice E'))(hE:tsh P E'=some (bb,e.wd))
    (he:n=(xs.length:Int)) (hn:Nat.blt d A.n=true) (hfr:Fresh s t) (hk0:A.k0≤t):
    Does A P ⟨some d, .slice T x none (some hi) (some mx),ty,pos,af,g⟩ s ⟨(d,lf (.ref t)) :: s.tm,(t,some (.res (clR E e xs))) :: s.tab⟩:=fun a w K Q r hK=>by
  obtain ⟨gh,r⟩:=r
  obtain ⟨wN,hS,hR⟩:=hx gh a w r
  obtain ⟨B,c,k1,k2,k3⟩:=hR.slv
  have e1:(execOp a.eval ⟨some d, .slice T x none (some hi) (some mx),ty,pos,af,g⟩).run P w= .ok (.value (.slice (if xs.length=0 then B else B.map (·.add (0*e.wd))) (xs.length - 0) (xs.length - 0))) w:=by
    simp only[execOp,k1,hhi.ev r,hmx.ev r,de,cM,Instr.sliceAt,Instr.slice,aw,run_underlying hT,aH,QjV he k2,Yu hE]
    simp
  unfold Oper.wp
  rw[e1,Oper.upon_value]
  refine hK _ _ ⟨_,(r.addR hfr hk0 (R:=clR E e xs) ⟨rfl,_,rfl,wN,hS, ?_⟩).put (aG hn) (pv:=lf (.ref t)) ⟨_,rfl,fun _=>(Y4 ..).symm⟩⟩
  rw[k1] at hR
  obtain ⟨A',c',k,q1,q2,q3⟩:=hR
  simp only[aI,Value.slice.injEq,and_true,true_and] at k
  obtain ⟨rfl,rfl⟩:=k
  refine ⟨_,xs.length,rfl,aO _,by omega,fun hp=> ?_⟩
  obtain ⟨b,o,rfl,k4⟩:=q3 hp
  rw[if_neg (by omega)]
  exact ⟨b,o,by simp[Addr.add_lit],k4⟩
theorem Qm3 {E:TypeId}{e:Ty}{w:World}(t ty:TypeId)(ht:P.underlying t=some (.slice E))(he:ElemInfo P E e){ad:Option Addr}{u:Value}{xs ys:List e.Den}(h1:Rep (.sl E e) w [.slice ad xs.length xs.length] xs)
    (h2:Rep (.sl E e) w [u] ys) (hf:e.flat=true) (hy:0 < ys.length) (hb:xs.length+ys.length≤1073741824):
    ∃v' w' fp',(Builtin.append_ #[t,t] ty #[.slice ad xs.length xs.length,u]).run P w= .ok v' w'∧Own (.sl E e) w' fp' [v'] (xs++ys)∧fp'.Nodup∧(∀g∈fp',w.heap.size≤g)∧Grw w w'∧∀g,g < w.heap.size→w'.heap[g]? =w.heap[g]? :=by
  rcases h1.srcOk hf with ⟨c,hu,hx,_⟩ | ⟨ao,co,olds,hu,o1,o2⟩
  · subst hx
    simp only[Value.slice.injEq] at hu
    obtain ⟨rfl,_,_⟩:=hu
    obtain ⟨v',w',fp',a1,a2,a3,a4,a5,a6⟩:=Qb7 (P:=P) t ty ht he (v:= .slice none 0 0) (fp:=[]) (xs:=[]) (.inl ⟨rfl,rfl,rfl⟩) bt (h2.srcOk hf) bt (by simp) (by simp) (by simpa using hb)
    exact ⟨v',w',fp',a1,a2,a3,fun g hg=>by
      rcases a4 g hg with h | h | h
      · cases h
      · cases h
      · exact h,a5,fun g hg=>a6 g hg (by simp)⟩
  · simp only [Value.slice.injEq] at hu
    obtain ⟨rfl,_,hc⟩:=hu
    rcases h2.srcOk hf with ⟨c,_,h,_⟩ | ⟨an,cn,news,rfl,n1,n2⟩
    · rw[h] at hy; cases hy
    · obtain ⟨i, z, i1, i2, i3, i4, i5⟩ := he
      have hbm:(xs.length+ys.length)*i.bytes≤140737488355328:=by
        calc (xs.length+ys.length)*i.bytes≤1073741824*65536:=Nat.mul_le_mul (by omega) i4
          _≤140737488355328:=by decide
      obtain ⟨v',w',a1,a2,a3⟩:=run_append_arg_grows (P:=P) w t ty E i z e.wd i.bytes ht i1 i2 i3 rfl i5 (XD e) ao xs.length xs.length olds o1.len o2 an ys.length cn news n1.len n2 (by omega) (by unfold maxLen; omega) hbm
      have hkp:∀g,g < w.heap.size→w'.heap[g]? =w.heap[g]? :=fun g hg=>a3.block g hg (by simp)
      obtain ⟨b1,b2⟩:=a2
      have k1:OwnL (Own e w') [] olds xs:=o1.mono fun f c x hf ho=>ho.keep fun g hg=>by have:=hf g hg; cases this
      have k2:OwnL (Own e w') [] news ys:=n1.mono fun f c x hf ho=>ho.keep fun g hg=>by have:=hf g hg; cases this
      rcases b2 with ⟨_,h0⟩ | ⟨g,cap,cur,rfl,g1,g2,g3,g4,g5,g6⟩
      · omega
      · obtain ⟨fp, o3, o4⟩ := Qcj (e := e) (xs := xs ++ ys) (n := xs.length + ys.length) (by rw [ai]) (w := w') (v := .slice (some ⟨g, 0, none⟩) (xs.length + ys.length) cap) ⟨b1, .inr ⟨g, cap, cur, rfl, aR _, g2, g3, g4, g5, g6⟩⟩ (k1.append k2)
        refine ⟨_,w',fp,a1,o3, ?_,fun g' hg'=> ?_,⟨a3.os,a3.tape,a3.output,a3.size⟩,hkp⟩
        · rcases o4 with ⟨_,rfl⟩ | ⟨_,_,rfl⟩ <;> simp
        · rcases o4 with ⟨h, _⟩ | ⟨g9, h, rfl⟩
          · cases h
          · simp only [Value.ownBlock, bk] at h
            simp only[bF,aE,bW,or_false] at hg'
            subst hg'; subst h; exact g1
theorem Qev (t:Nat){q:Nat}{E:TypeId}{e:Ty}{xs ys:List e.Den}(hx:Evl A s x (.ref q))(he:s.tab.ent q=some (.res (clR E e xs)))(hy:JT A s y (.sl E e) ys)(hf:e.flat=true)(hy0:0 < ys.length)
    (hT:P.underlying T=some (.slice E)) (hE:WG P E e.wd=true) (hb:xs.length+ys.length≤1073741824) (hn:Nat.blt d A.n=true) (hfr:Fresh s t) (hk0:A.k0≤t):
    Does A P ⟨some d, .call {callee:= .builtin .append,args:= #[x,y],argTypes:= #[T,T]},ty,pos,af,g⟩ s (s.mk_ d t [q] E e (xs++ys)):=fun a w K Q r hK=>by
  obtain ⟨gh,r⟩:=r
  obtain ⟨h0,ad,h1,h2⟩:(clR E e xs).rel gh.N w (gh.f q) (gh.h q):=r.cx.en q _ he
  rw[h1] at h2
  obtain ⟨v',w',fp',k1,k2,k3,k4,k5,k6⟩:=Qm3 (P:=P) T ty hT (Qer hE) h2.rep (hy gh a w r) hf hy0 hb
  exact QcH rfl (by rw[show a.eval x=gh.h q from hx gh a w r ⟨_,he⟩,h1]; exact k1) (hK _ _ (r.make_put t hfr hk0 [q] (by simp only[aE,bW,or_false]; rintro _ rfl; exact ⟨_,he⟩) k5 (fun g hg hx=>k6 g hg) k2 k3 (fun g hg=> .inl (k4 g hg)) hn))
theorem QcS (t:Nat){q:Nat}{E:TypeId}{e:Ty}{xs ys:List e.Den}(hx:Evl A s x (.ref q))(he:s.tab.ent q=some (.res (clR E e xs)))(hy:JT A s y (.sl E e) ys)(hf:e.flat=true)(hy0:0 < ys.length)
    (hT:P.underlying T=some (.slice E)) (hE:WG P E e.wd=true) (hb:xs.length+ys.length≤1073741824) (hn:Nat.blt d A.n=true) (hfr:Fresh s t) (hk0:A.k0≤t):
    Does A P ⟨some d, .call {callee:= .builtin .append,args:= #[x,y],argTypes:= #[T,T]},ty,pos,af,g⟩ s ⟨(d,lf (.dat (.sl E e) (xs++ys))) :: s.tm,(q,none) :: s.tab⟩:=
  Does.wk (Qev t hx he hy hf hy0 hT hE hb hn hfr hk0) (Wk.trans (Wk.freeze (i:=d) (q:=t) (E:=E) (e:=e) (xs:=xs++ys) (by show lk ((d,_) :: _) d=_; rw[Y8,if_pos rfl]) (by show Tab.ent ((t,_) :: _) t=_; rw[Qh,if_pos rfl])) fun a w ⟨gh,r⟩=>⟨gh,r.ext (fun i=>by
      show lk ((d,_) :: s.tm) i=lk ((d,_) :: (d,_) :: s.tm) i
      rw[Y8,Y8,Y8]
      by_cases h:i=d
      · rw[if_pos h,if_pos h]
      · rw[if_neg h,if_neg h,if_neg h]) fun u=>by
      show Tab.ent ((q,none) :: s.tab) u=Tab.ent ((t,none) :: (t,_) :: (q,none) :: s.tab) u
      rw[Qh t,Qh t]
      by_cases h:u=t
      · rw [if_pos h, Qh]
        split
        · rfl
        · subst h
          cases hs:Tab.ent s.tab u with
          | none=>rfl
          | some e'=>exact absurd ⟨e',hs⟩ hfr.al
      · rw[if_neg h,if_neg h]⟩)
end
end Go.Proofs.YtfkmmpfdncopdaaGreat
namespace Go.Proofs.YtfkmmpfdncopdaaGreat
open Go.RowKit
section
variable {A:Amb}{s:St}
theorem U4 {p:Nat}{E':TypeId}{cs:List LV}(cs':List LV)(hp:s.tab.ent p=some (.box E' cs))(k:QiM cs cs'):Wk A s ⟨s.tm,(p,some (.box E' cs')) :: s.tab⟩:=fun a w r=>by
  obtain ⟨gh,r⟩:=r
  obtain ⟨g,cur,h1,h2,h3,h4⟩:=r.cx.en p _ hp
  exact ⟨gh,r.mod hp (ZE w) (fun _ _ _=>rfl) ⟨g,cur,h1,h2,h3,h4.nils k⟩⟩
end
end Go.Proofs.YtfkmmpfdncopdaaGreat
namespace Go.Proofs.YtfkmmpfdncopdaaGreat
open Go.RowKit
section
variable {A:Amb}{P:Program}{s:St}{x y:Operand}{d:Nat}{T T' ty:TypeId}{pos:String}{af:Array Edge}{g:Option (Nat×Bool)}
theorem Qfl (op:BinOp)(hop:op= .and∨op= .or)(m n:Nat)(hm:m < 9223372036854775808)(hn:n < 9223372036854775808):bits op .i64 (m:Int) (n:Int)=((if op= .and then m &&& n else m ||| n:Nat):Int):=by
  have h1:(BitVec.ofInt 64 (m:Int)).toNat=m:=by rw[BitVec.ofInt_natCast,BitVec.toNat_ofNat]; exact da (by omega)
  have h2:(BitVec.ofInt 64 (n:Int)).toNat=n:=by rw[BitVec.ofInt_natCast,BitVec.toNat_ofNat]; exact da (by omega)
  rcases hop with rfl | rfl
  · have hx : m &&& n < 2 ^ 63 := Nat.and_lt_two_pow _ (by omega)
    show IntKind.i64.wrap ((BitVec.ofInt 64 (m:Int) &&& BitVec.ofInt 64 (n:Int)).toNat:Int)=_
    rw[BitVec.toNat_and,h1,h2,IntWalk.i64_in _ (by omega)]
    rfl
  · have hx : m ||| n < 2 ^ 63 := Nat.or_lt_two_pow (by omega) (by omega)
    show IntKind.i64.wrap ((BitVec.ofInt 64 (m:Int) ||| BitVec.ofInt 64 (n:Int)).toNat:Int)=_
    rw[BitVec.toNat_or,h1,h2,IntWalk.i64_in _ (by omega)]
    rfl
theorem Qst {m n:Int}(hx:Evl A s x (dI m))(hy:Evl A s y (dI n))(hn:Nat.blt d A.n=true)(h0:0≤m)(h00:0≤n):Does A P ⟨some d, .binOp .and T x y T',ty,pos,af,g⟩ s (s.put d (lf (dI ((m.toNat &&& n.toNat:Nat):Int)))):=
  Qg rfl hn fun gh a w r=>by
    have h1:=hx.i r
    have h2:=hy.i r
    have k1:=(LVR.int (hx gh a w r)).2
    have k2:=(LVR.int (hy gh a w r)).2
    have hb:=Qfl .and (.inl rfl) m.toNat n.toNat (by omega) (by omega)
    rw[cZ h0,cZ h00] at hb
    have hb:bits .and .i64 m n=((m.toNat &&& n.toNat:Nat):Int):=hb
    have h3:Op.intBits .and .i64 m n=pure (.int .i64 ((m.toNat &&& n.toNat:Nat):Int)):=by rw[← hb]; rfl
    have hx2:m.toNat &&& n.toNat≤m.toNat:=Nat.and_le_left
    refine ⟨.int .i64 ((m.toNat &&& n.toNat:Nat):Int), ?_,_,rfl,Ye (by omega)⟩
    simp only[execOp,h1,h2,eqGuard_at_int,binOp,h3]
    simp
theorem QsT {m n:Int}(hx:Evl A s x (dI m))(hy:Evl A s y (dI n))(hn:Nat.blt d A.n=true)(h0:0≤m)(h00:0≤n):Does A P ⟨some d, .binOp .or T x y T',ty,pos,af,g⟩ s (s.put d (lf (dI ((m.toNat ||| n.toNat:Nat):Int)))):=
  Qg rfl hn fun gh a w r=>by
    have h1:=hx.i r
    have h2:=hy.i r
    have k1:=(LVR.int (hx gh a w r)).2
    have k2:=(LVR.int (hy gh a w r)).2
    have hb:=Qfl .or (.inr rfl) m.toNat n.toNat (by omega) (by omega)
    rw[cZ h0,cZ h00] at hb
    have hb:bits .or .i64 m n=((m.toNat ||| n.toNat:Nat):Int):=hb
    have h3:Op.intBits .or .i64 m n=pure (.int .i64 ((m.toNat ||| n.toNat:Nat):Int)):=by rw[← hb]; rfl
    have hx2:m.toNat ||| n.toNat < 2 ^ 63:=Nat.or_lt_two_pow (by omega) (by omega)
    refine ⟨.int .i64 ((m.toNat ||| n.toNat:Nat):Int), ?_,_,rfl,Ye (by omega)⟩
    simp only[execOp,h1,h2,eqGuard_at_int,binOp,h3]
    simp
theorem QrX {m n:Int}(hx:Evl A s x (dI m))(hy:Evl A s y (dI n))(hn:Nat.blt d A.n=true)(h0:0≤n∧n≤62)(hm:0≤m):Does A P ⟨some d, .binOp .shr T x y T',ty,pos,af,g⟩ s (s.put d (lf (dI (m / 2 ^ n.toNat)))):=
  Qg rfl hn fun gh a w r=>by
    have h1:=hx.i r
    have h2:=hy.i r
    have k1:=(LVR.int (hx gh a w r)).2
    have h3:Op.shift .shr .i64 m .i64 n=pure (.int .i64 (m / 2 ^ n.toNat)):=by
      rw[shift_shr_any _ _ _ _ h0.1,show IntKind.i64.bits=64 from rfl,cu (by omega)]
    have h4:0≤m / 2 ^ n.toNat:=Int.ediv_nonneg hm (Int.pow_nonneg (by decide))
    have h5:m / 2 ^ n.toNat≤m:=Int.ediv_le_self _ hm
    refine ⟨.int .i64 (m / 2 ^ n.toNat), ?_,_,rfl,Ye (by omega)⟩
    simp only[execOp,h1,h2,eqGuard_at_int,binOp,h3]
    simp
end
end Go.Proofs.YtfkmmpfdncopdaaGreat
namespace Go.Proofs.YtfkmmpfdncopdaaGreat
open Go.RowKit
theorem QnI:EqT Tryz.prog 2 120 true (.pr .int .bool):=EqT.struct Tryz.underlying120 (by kernel_rfl) (EqFs.cons (by decide) rfl Kw (fun _=>rfl) (EqT.int Jv) (EqFs.one (by decide) rfl QfH (fun _=>rfl) (EqT.bool Yc)))
theorem QnH:(Tryz.prog.eqGuardType Tryz.prog.depth 120=false)∧2≤10000:=⟨by kernel_rfl,by decide⟩
end Go.Proofs.YtfkmmpfdncopdaaGreat
namespace Go.Proofs.YtfkmmpfdncopdaaGreat
open Go.RowKit
def QcD (xs:List Int):List Int:=xs.mergeSort fun x y=>decide (x≤y)
theorem KW (xs:List Int):(QcD xs).Perm xs:=List.mergeSort_perm ..
theorem QjJ (xs:List Int):(QcD xs).length=xs.length:=(KW xs).length_eq
theorem QkE {xs:List Int}{x:Int}:x∈QcD xs↔x∈xs:=(KW xs).mem_iff
theorem Qeq (xs:List Int):(QcD xs).Pairwise fun x y=>x≤y:=by
  have h:=List.pairwise_mergeSort (le:=fun x y:Int=>decide (x≤y)) (fun a b c h1 h2=>by simp only[aV] at*; omega) (fun a b=>by simp only[bS,aV]; omega) xs
  exact h.imp fun h=>by simpa using h
def Qto (P:Program)(f:FuncId):Prop:=∀(blk cap:Nat) (zs:List Int) (w:World),Sort.Holds (Value.int .i64) w blk 0 zs.toArray→blk < w.heap.size→zs.length < 4611686018427387904→
  Calls P f #[.slice (some ⟨blk,0,none⟩) zs.length cap] w fun e w'=>e= .returned (.tuple #[])∧∃n os,w'=Sort.grow (Sort.putRow (Value.int .i64) (Sort.ahead w n) blk 0 (QcD zs).toArray) os
def QfP (P:Program)(f:FuncId):Prop:=∀w:World,Calls P f #[.slice none 0 0] w fun e w'=>e= .returned (.tuple #[])∧Nw w w'
end Go.Proofs.YtfkmmpfdncopdaaGreat
namespace Go.Proofs.YtfkmmpfdncopdaaGreat
structure TO {α:Type _} (lt:α→α→Bool):Prop where
  irr:∀x,lt x x=false
  tr:∀x y z,lt x y=true→lt y z=true→lt x z=true
  tot:∀x y,lt x y=true∨x=y∨lt y x=true
def QN {α:Type _}[DecidableEq α](lt:α→α→Bool)(x:α):List α→List α
  | []=>[x]
  | y :: l=>if lt y x=true then y :: QN lt x l else if y=x then y :: l else x :: y :: l
def Q7 {α:Type _}[DecidableEq α]:List α→List α
  | []=>[]
  | [x]=>[x]
  | x :: y :: l=>if x=y then Q7 (y :: l) else x :: Q7 (y :: l)
def ofG {α:Type _}[DecidableEq α](lt:α→α→Bool)(l:List α):List α:=l.foldl (fun s x=>QN lt x s) []
section
variable {α:Type _}[DecidableEq α]{lt:α→α→Bool}{l a b:List α}{x y z:α}{k:Nat}
omit [DecidableEq α] in
theorem TO.ext (h:TO lt):∀{a b:List α},a.Pairwise (fun x y=>lt x y=true)→b.Pairwise (fun x y=>lt x y=true)→(∀x,x∈a↔x∈b)→a=b
  | [],[],_,_,_=>rfl
  | [],y :: b,_,_,hm=>by have:=(hm y).2 (az ..); cases this
  | x :: a,[],_,_,hm=>by have:=(hm x).1 (az ..); cases this
  | x :: a,y :: b,ha,hb,hm=>by
    obtain ⟨a1,a2⟩:=bi.1 ha
    obtain ⟨b1,b2⟩:=bi.1 hb
    have hxy:x=y:=by
      rcases aE.1 ((hm x).1 (az ..)) with h1 | h1
      · exact h1
      · rcases aE.1 ((hm y).2 (az ..)) with h2 | h2
        · exact h2.symm
        · have := h.tr _ _ _ (a1 _ h2) (b1 _ h1)
          rw[h.irr] at this; cases this
    subst hxy
    congr 1
    refine h.ext a2 b2 fun z=>⟨fun hz=> ?_,fun hz=> ?_⟩
    · rcases aE.1 ((hm z).1 (ax _ hz)) with h1 | h1
      · subst h1; have:=a1 _ hz; rw[h.irr] at this; cases this
      · exact h1
    · rcases aE.1 ((hm z).2 (ax _ hz)) with h1 | h1
      · subst h1; have:=b1 _ hz; rw[h.irr] at this; cases this
      · exact h1
theorem ZO:z∈QN lt x l↔z=x∨z∈l:=by
  induction l with
  | nil=>simp[QN]
  | cons y l ih=>
    unfold QN
    split
    · rw [aE, ih, aE]
      constructor
      · rintro (h | h | h)
        · exact .inr (.inl h)
        · exact .inl h
        · exact .inr (.inr h)
      · rintro (h | h | h)
        · exact .inr (.inl h)
        · exact .inl h
        · exact .inr (.inr h)
    · split
      · rename_i h; subst h
        rw[aE]
        exact ⟨fun h=>h.elim .inl fun h=> .inr (.inr h),fun h=>h.elim .inl id⟩
      · rw[aE]
theorem UM (h:TO lt)(hl:l.Pairwise (fun x y=>lt x y=true)):(QN lt x l).Pairwise (fun x y=>lt x y=true):=by
  induction l with
  | nil=>simp[QN]
  | cons y l ih=>
    obtain ⟨h1,h2⟩:=bi.1 hl
    unfold QN
    split
    · rename_i hy
      refine bi.2 ⟨fun z hz=> ?_,ih h2⟩
      rcases ZO.1 hz with rfl | hz
      · exact hy
      · exact h1 z hz
    · split
      · exact hl
      · rename_i hy hne
        have hxy:lt x y=true:=by
          rcases h.tot x y with h3 | h3 | h3
          · exact h3
          · exact absurd h3.symm hne
          · exact absurd h3 hy
        refine bi.2 ⟨fun z hz=> ?_,hl⟩
        rcases aE.1 hz with rfl | hz
        · exact hxy
        · exact h.tr _ _ _ hxy (h1 z hz)
theorem QcK (h:TO lt):∀(l s:List α),s.Pairwise (fun x y=>lt x y=true)→(l.foldl (fun s x=>QN lt x s) s).Pairwise (fun x y=>lt x y=true)∧∀z,z∈l.foldl (fun s x=>QN lt x s) s↔z∈s∨z∈l
  | [],s,hs=>⟨hs,fun z=>by simp⟩
  | x :: l,s,hs=>by
    obtain ⟨h1,h2⟩:=QcK h l _ (UM (x:=x) h hs)
    refine ⟨h1,fun z=> ?_⟩
    rw[bu,h2,ZO,aE]
    constructor
    · rintro ((h | h) | h)
      · exact .inr (.inl h)
      · exact .inl h
      · exact .inr (.inr h)
    · rintro (h | h | h)
      · exact .inl (.inr h)
      · exact .inl (.inl h)
      · exact .inr h
theorem Q1 (h:TO lt)(l:List α):(ofG lt l).Pairwise (fun x y=>lt x y=true):=(QcK h l [] bX).1
theorem XI (h:TO lt)(l:List α):z∈ofG lt l↔z∈l:=by
  have:=(QcK h l [] bX).2 z
  simpa [ofG] using this
theorem QfI:QN lt x (ofG lt l)=ofG lt (l++[x]):=by unfold ofG; rw[List.foldl_append]; rfl
theorem Jl:∀{l:List α},z∈Q7 l↔z∈l
  | []=>Iff.rfl
  | [x]=>Iff.rfl
  | x :: y :: l=>by
    unfold Q7
    split
    · rename_i h; subst h
      rw[Jl]
      exact ⟨ax _,fun h=>(aE.1 h).elim (fun h=>by rw[h]; exact az ..) id⟩
    · rw[aE,Jl,aE (l:=y :: l)]
theorem Qcl (h:TO lt):∀{l:List α},l.Pairwise (fun x y=>lt y x=false)→(Q7 l).Pairwise (fun x y=>lt x y=true)
  | [],_=>bX
  | [x],_=>by simp[Q7]
  | x :: y :: l,hl=>by
    obtain ⟨h1,h2⟩:=bi.1 hl
    unfold Q7
    split
    · exact Qcl h h2
    · rename_i hne
      refine bi.2 ⟨fun z hz=> ?_,Qcl h h2⟩
      rw[Jl] at hz
      rcases h.tot x z with h3 | h3 | h3
      · exact h3
      · subst h3
        rcases aE.1 hz with h4 | h4
        · exact absurd h4 hne
        · have h5 := h1 y (az ..)
          have h6:=(bi.1 h2).1 x h4
          rcases h.tot x y with h7 | h7 | h7
          · rw[h6] at h7; cases h7
          · exact absurd h7 hne
          · rw[h5] at h7; cases h7
      · have:=h1 z hz; rw[this] at h3; cases h3
theorem QeG (h:TO lt){s l:List α}(hs:s.Pairwise (fun x y=>lt y x=false))(hm:∀z,z∈s↔z∈l):Q7 s=ofG lt l:=
  h.ext (Qcl h hs) (Q1 h l) fun z=>by rw[Jl,hm,XI h]
theorem QeT:∀{k:Nat} {l:List α},(∀j,j < k→∀y,l[j]? =some y→lt y x=true)→k≤l.length→(∀y,l[k]? =some y→lt y x=false∧y≠x)→QN lt x l=l.take k++x :: l.drop k
  | 0,[],_,_,_=>rfl
  | 0,y :: l,_,_,h2=>by
    obtain ⟨h3,h4⟩:=h2 y rfl
    unfold QN
    rw[if_neg (by rw[h3]; decide),if_neg h4]; rfl
  | k+1,[],_,hk,_=>by simp at hk
  | k+1,y :: l,h1,hk,h2=>by
    unfold QN
    rw[if_pos (h1 0 (by omega) y rfl),QeT (k:=k) (fun j hj z hz=>h1 (j+1) (by omega) z (by simpa using hz)) (by simpa using hk) (fun z hz=>h2 z (by simpa using hz))]
    rfl
theorem J6:∀{k:Nat} {l:List α},(∀j,j < k→∀y,l[j]? =some y→lt y x=true)→l[k]? =some x→lt x x=false→QN lt x l=l
  | 0,[],_,h,_=>by simp at h
  | 0,y :: l,_,h,h3=>by
    simp only[bO,bk] at h
    subst h
    unfold QN
    rw[if_neg (by rw[h3]; decide),if_pos rfl]
  | k+1,[],_,h,_=>by simp at h
  | k+1,y :: l,h1,h,h3=>by
    unfold QN
    rw[if_pos (h1 0 (by omega) y rfl),J6 (k:=k) (fun j hj z hz=>h1 (j+1) (by omega) z (by simpa using hz)) (by simpa using h) h3]
end
def ltI (x y:Int):Bool:=decide (x < y)
theorem WD:TO ltI:=⟨fun x=>by simp[ltI],fun x y z h1 h2=>by simp only[ltI,aV] at*; omega,fun x y=>by simp only[ltI,aV]; omega⟩
end Go.Proofs.YtfkmmpfdncopdaaGreat
namespace Go.Proofs.YtfkmmpfdncopdaaGreat
open Go.RowKit
def ltB (x y:ByteArray):Bool:=Op.bytesLess x.toList y.toList
def fB (x:ByteArray):List UInt8:=x.data.toList
theorem QqT {x y:ByteArray}(h:fB x=fB y):x=y:=by
  cases x; cases y
  exact congrArg _ (Array.toList_inj.1 h)
theorem Qpd:∀(x y:List UInt8),Op.bytesLess x y=decide (x < y)
  | [],[]=>by simp[Op.bytesLess]
  | _ :: _,[]=>by simp[Op.bytesLess]
  | [],_ :: _=>by simp[Op.bytesLess]
  | a :: x,b :: y=>by
    rw[Op.bytesLess,Qpd x y]
    simp only[List.cons_lt_cons_iff]
    by_cases h1:a < b <;> by_cases h2:a=b <;> by_cases h3:x < y <;> simp[h1,h2,h3]
theorem Qbv (x y:ByteArray):ltB x y=decide (fB x < fB y):=by unfold ltB; rw[bc,bc,Qpd]; rfl
theorem QO:TO ltB:=⟨fun x=>by rw[Qbv]; simp[List.lt_irrefl],fun x y z h1 h2=>by rw[Qbv,aV] at*; exact List.lt_trans h1 h2,fun x y=>by
  rw[Qbv,Qbv,aV,aV]
  by_cases h1:fB x < fB y
  · exact .inl h1
  · by_cases h2 : fB y < fB x
    · exact .inr (.inr h2)
    · exact .inr (.inl (QqT (List.le_antisymm (List.not_lt.1 h2) (List.not_lt.1 h1))))⟩
def QY (xs:List ByteArray):List ByteArray:=xs.mergeSort fun x y=> !ltB y x
theorem YG (xs:List ByteArray):(QY xs).Perm xs:=List.mergeSort_perm ..
theorem ZM (xs:List ByteArray):(QY xs).length=xs.length:=(YG xs).length_eq
theorem VT (xs:List ByteArray):(QY xs).Pairwise fun x y=>ltB y x=false:=by
  have h:=List.pairwise_mergeSort (le:=fun x y:ByteArray=> !ltB y x) (fun a b c h1 h2=>by
    simp only[bM] at*
    cases e:ltB c a with
    | false=>rfl
    | true=>
      rcases QO.tot a b with k | rfl | k
      · rw[QO.tr _ _ _ e k] at h2; cases h2
      · rw[e] at h2; cases h2
      · rw[k] at h1; cases h1) (fun a b=>by
    cases e:ltB b a with
    | false=>rfl
    | true=>
      cases k:ltB a b with
      | false=>rfl
      | true=>have:=QO.tr _ _ _ e k; rw[QO.irr] at this; cases this) xs
  exact h.imp fun h=>by simpa using h
theorem QjO (xs:List ByteArray):(QY xs).map fB=(xs.map fB).mergeSort fun x y=>decide (x≤y):=
  List.map_mergeSort fun a _ b _=>by
    rw[Qbv]
    by_cases h:fB b < fB a
    · have : ¬ fB a ≤ fB b := fun k => List.not_lt.2 k h
      simp[h,this]
    · have := List.not_lt.1 h
      simp[h,this]
theorem QlU (x:ByteArray):encStr (fB x)= .string x:=by cases x; simp[encStr,fB]
theorem Qc6 {w:World}:∀{xs:List ByteArray} {fp:List Nat} {cs:List Value},OwnL (Own .str w) fp cs xs→fp=[]∧cs=(xs.map fB).map encStr∧∀x∈xs,x.size≤maxLen
  | [],fp,cs,h=>⟨h.1,h.2,fun x hx=>by cases hx⟩
  | x :: xs,fp,cs,h=>by
    obtain ⟨f1,f2,l,r,rfl,rfl,⟨rfl,rfl,h1⟩,h2⟩:=h
    obtain ⟨rfl,rfl,h3⟩:=Qc6 h2
    exact ⟨rfl,by rw[bg,bg,QlU]; rfl,fun y hy=>by rcases aE.1 hy with rfl | hy; exact h1; exact h3 y hy⟩
theorem Qfe {w:World}:∀{xs:List ByteArray},(∀x∈xs,x.size≤maxLen)→OwnL (Own .str w) [] ((xs.map fB).map encStr) xs
  | [],_=>⟨rfl,rfl⟩
  | x :: xs,h=>⟨[],[],[.string x],(xs.map fB).map encStr,rfl,by rw[bg,bg,QlU]; rfl,⟨rfl,rfl,h x (az ..)⟩,Qfe fun y hy=>h y (ax _ hy)⟩
def Qmx (P:Program)(f:FuncId):Prop:=∀(blk cap:Nat) (zs:List ByteArray) (w:World),Sort.Holds encStr w blk 0 (zs.map fB).toArray→blk < w.heap.size→zs.length < 4611686018427387904→
  Calls P f #[.slice (some ⟨blk,0,none⟩) zs.length cap] w fun e w'=>e= .returned (.tuple #[])∧∃n os,w'=Sort.grow (Sort.putRow encStr (Sort.ahead w n) blk 0 ((QY zs).map fB).toArray) os
theorem Qnl {P:Program}{f:FuncId}{E:TypeId}(hS:Qmx P f)(hN:QfP P f)(xs:List ByteArray)(hl:xs.length≤1000000000):FC P f [(false,[.ref 0])] [(0,some (.arr E .str xs))] 1 (Is (.tup []) [(0,some (.arr E .str (QY xs)))]):=fun gh w vs cx ha=>by
  obtain ⟨v,vs',rfl,⟨l,hl_,h1⟩,rfl⟩:=ha
  simp only[aI,and_true] at hl_
  subst hl_
  have hv:v=gh.h 0:=h1 ⟨_,rfl⟩
  subst hv
  have hO:Own (.sl E .str) w (gh.f 0) [gh.h 0] xs:=cx.en 0 _ rfl
  have alq:∀(y:List ByteArray) q,Tab.al [(0,some (Ent.arr E .str y))] q→q=0:=fun y q ⟨e,he⟩=>by
    rw[Qh] at he
    split at he
    · assumption
    · cases he
  rcases hO with ⟨hf,hc,hx⟩ | ⟨g,cap,cur,fps,hf,hc,hb,hn,hcap,hsz,hL⟩
  · simp only [aI, and_true] at hc
    subst hx
    rw[hc]
    refine Calls.mono (hN w) fun e w' he=> ?_
    obtain ⟨rfl,h2⟩:=he
    refine ⟨_,_,_,gh,rfl,⟨rfl,rfl⟩,⟨fun q e he=> ?_,fun q q' hq hq' hne=>absurd ((alq _ q hq).trans (alq _ q' hq').symm) hne,fun q hq=> ?_,fun q hq g hg=> ?_,fun g hg=>bh (cx.nl g hg) h2.size⟩,⟨[],rfl,rfl⟩,
      ⟨h2.grw,fun g hg _=>Below.block h2 g hg,fun g hg=> .inl hg,fun q hq g hg=> ?_⟩,fun q _ _=>rfl⟩
    · rw [Qh] at he
      split at he
      · rename_i e0; subst e0; cases he
        exact .inl ⟨hf,by rw[hc],by simp[QY]⟩
      · cases he
    · rw[alq _ q hq,hf]; exact bt
    · rw[alq _ q hq,hf] at hg; cases hg
    · rw[alq _ q hq,hf] at hg; cases hg
  · simp only [aI, and_true] at hc
    rw[cX] at hL
    obtain ⟨rfl,ht,hr⟩:=Qc6 hL
    have hg:g < w.heap.size:=(bP.1 hb).1
    rw[hc]
    have hm:xs.length≤9223372036854775807:=by unfold maxLen at hcap; omega
    refine Calls.mono (hS g cap xs w (holds_of_block hb (by rw[aP]; exact ht)) hg (by omega)) fun e w' he=> ?_
    obtain ⟨rfl,n,os,rfl⟩:=he
    obtain ⟨k1,k2,k3,k4,k5⟩:=grownBy_sorted (w:=w) (g:=g) (n:=n) (os:=os) ((QY xs).map fB).toArray
    have hlen:=ZM xs
    refine ⟨_,_,_,gh,rfl,⟨rfl,rfl⟩,⟨fun q e he=> ?_,fun q q' hq hq' hne=>absurd ((alq _ q hq).trans (alq _ q' hq').symm) hne,fun q hq=> ?_,fun q hq g' hg'=> ?_,fun g' hg'=>bh (cx.nl g' hg') k4⟩,⟨[],rfl,rfl⟩,
      ⟨⟨k1,k2,k3,k4⟩,fun g' h1 h2=> ?_,fun g' h1=> .inl h1,fun q hq g' hg'=> ?_⟩,fun q _ _=>rfl⟩
    · rw [Qh] at he
      split at he
      · rename_i e0; subst e0; cases he
        refine .inr ⟨g,cap,_,[],hf,by rw[hc,hlen],heap_sorted _ hb,by omega,hcap,by simpa [Sort.putCells] using hsz, ?_⟩
        show OwnL (Own .str _) [] (List.take ((QY xs).length*1) _) (QY xs)
        have ht2:=take_putCells cur ((QY xs).map fB) (by rw[aP]; have:cur.size=cap*1:=hsz; omega)
        rw[aP] at ht2
        rw[cX,ht2]
        exact Qfe fun x hx=>hr x ((YG xs).mem_iff.1 hx)
      · cases he
    · rw[alq _ q hq]; exact cx.nd 0 ⟨_,rfl⟩
    · rw[alq _ q hq] at hg'; exact cx.no 0 ⟨_,rfl⟩ g' hg'
    · exact k5 g' h1 fun e0=>h2 0 ⟨_,rfl⟩ (by rw[hf]; cases e0; exact az ..)
    · rw[alq _ q hq] at hg'; exact .inr ⟨0,⟨_,rfl⟩,hg'⟩
end Go.Proofs.YtfkmmpfdncopdaaGreat
namespace Go.Proofs.YtfkmmpfdncopdaaGreat
open Go.RowKit
def QjY:Go.Shelf.Ren:=⟨fun | 190=>150 | 125=>240 | 258=>239 | 128=>302 | 129=>303 | 302=>293 | 303=>294 | 304=>295 | 305=>296 | 306=>297 | 307=>298 | 308=>299 | 309=>300 | 310=>301 | 333=>348 | 329=>349 | 330=>350 | 334=>351 | 335=>352 | 336=>353 | 344=>376 | n=>n,fun | 31=>25 | 9=>9 | 3=>3 | 46=>252 | 0=>0 | 51=>314 | 53=>91 | 4=>4 | 183=>308 | 182=>307 | 131=>66 | 5=>5 | 218=>341 | 222=>345 | 228=>360 | 229=>361 | n=>n,fun | n=>n⟩
theorem Qpq:Go.Proofs.Lays.n190 Tryz.prog QjY:={
  mixed:=by kernel_rfl,
  f125:=Tryz.func240.trans (congrArg some (by kernel_rfl)),
  f128:=Tryz.func302.trans (congrArg some (by kernel_rfl)),
  f129:=Tryz.func303.trans (congrArg some (by kernel_rfl)),
  f190:=Tryz.func150.trans (congrArg some (by kernel_rfl)),
  f258:=Tryz.func239.trans (congrArg some (by kernel_rfl)),
  f302:=Tryz.func293.trans (congrArg some (by kernel_rfl)),
  f303:=Tryz.func294.trans (congrArg some (by kernel_rfl)),
  f304:=Tryz.func295.trans (congrArg some (by kernel_rfl)),
  f305:=Tryz.func296.trans (congrArg some (by kernel_rfl)),
  f306:=Tryz.func297.trans (congrArg some (by kernel_rfl)),
  f307:=Tryz.func298.trans (congrArg some (by kernel_rfl)),
  f308:=Tryz.func299.trans (congrArg some (by kernel_rfl)),
  f309:=Tryz.func300.trans (congrArg some (by kernel_rfl)),
  f310:=Tryz.func301.trans (congrArg some (by kernel_rfl)),
  f329:=Tryz.func349.trans (congrArg some (by kernel_rfl)),
  f330:=Tryz.func350.trans (congrArg some (by kernel_rfl)),
  f333:=Tryz.func348.trans (congrArg some (by kernel_rfl)),
  f334:=Tryz.func351.trans (congrArg some (by kernel_rfl)),
  f335:=Tryz.func352.trans (congrArg some (by kernel_rfl)),
  f336:=Tryz.func353.trans (congrArg some (by kernel_rfl)),
  f344:=Tryz.func376.trans (congrArg some (by kernel_rfl)),
  t0:=Tryz.underlying0,
  a0:=Tryz.isAgg0,
  z0:=Tryz.sizeOf0,
  v0:=Tryz.zeroValue0,
  t3:=Tryz.underlying3,
  a3:=Tryz.isAgg3,
  z3:=Tryz.sizeOf3,
  v3:=Tryz.zeroValue3,
  t4:=Tryz.underlying4,
  a4:=Tryz.isAgg4,
  z4:=Tryz.sizeOf4,
  v4:=Tryz.zeroValue4,
  t5:=Tryz.underlying5,
  a5:=Tryz.isAgg5,
  z5:=Tryz.sizeOf5,
  v5:=Tryz.zeroValue5,
  t9:=Tryz.underlying9,
  a9:=Tryz.isAgg9,
  z9:=Tryz.sizeOf9,
  v9:=Tryz.zeroValue9,
  t31:=Tryz.underlying25,
  a31:=Tryz.isAgg25,
  z31:=Tryz.sizeOf25,
  v31:=Tryz.zeroValue25,
  t46:=Tryz.underlying252,
  a46:=Tryz.isAgg252,
  z46:=Tryz.sizeOf252,
  v46:=Tryz.zeroValue252,
  t51:=Tryz.underlying314,
  a51:=Tryz.isAgg314,
  z51:=Tryz.sizeOf314,
  v51:=Tryz.zeroValue314,
  t53:=Tryz.underlying91,
  a53:=Tryz.isAgg91,
  z53:=Tryz.sizeOf91,
  v53:=Tryz.zeroValue91,
  t131:=Tryz.underlying66,
  a131:=Tryz.isAgg66,
  z131:=Tryz.sizeOf66,
  v131:=Tryz.zeroValue66,
  t182:=Tryz.underlying307,
  a182:=Tryz.isAgg307,
  z182:=Tryz.sizeOf307,
  v182:=Tryz.zeroValue307,
  t183:=Tryz.underlying308,
  a183:=Tryz.isAgg308,
  z183:=Tryz.sizeOf308,
  v183:=Tryz.zeroValue308,
  t218:=Tryz.underlying341,
  a218:=Tryz.isAgg341,
  z218:=Tryz.sizeOf341,
  v218:=Tryz.zeroValue341,
  t222:=Tryz.underlying345,
  a222:=Tryz.isAgg345,
  z222:=Tryz.sizeOf345,
  v222:=Tryz.zeroValue345,
  t228:=Tryz.underlying360,
  a228:=Tryz.isAgg360,
  z228:=Tryz.sizeOf360,
  v228:=Tryz.zeroValue360,
  t229:=Tryz.underlying361,
  a229:=Tryz.isAgg361,
  z229:=Tryz.sizeOf361,
  v229:=Tryz.zeroValue361}
theorem Qp7:Qmx Tryz.prog 150:=fun blk cap zs w hH hb hl=>by
  have h:=calls_of_every_depth fun D=>AnyS.slices_Sort_string_in Qpq D blk 0 cap (zs.map fB) w hH hb (by rw[aP]; exact hl)
  rw[aP,← QjO] at h
  exact h
theorem QkB:QfP Tryz.prog 150:=fun w=>Calls.mono (Any.slices_Sort_string_none Qpq none 0 w) fun _ _ ⟨h1,h2⟩=>⟨h1,h2▸QJ _⟩
theorem Uq (l:List ByteArray)(hl:l.length≤1000000000):FC Tryz.prog 150 [(false,[.ref 0])] [(0,some (.arr 9 .str l))] 1 (Is (.tup []) [(0,some (.arr 9 .str (QY l)))]):=Qnl Qp7 QkB l hl
end Go.Proofs.YtfkmmpfdncopdaaGreat
namespace Go.Proofs.YtfkmmpfdncopdaaGreat
open Go.RowKit
set_option maxRecDepth 100000
set_option maxHeartbeats 4000000
theorem QM (n:Int)(low:Int)(high:Int):FC Tryz.prog 94 [(false,[dI n]),(false,[dI low]),(false,[dI high])] [] 0 (QH (lB (decide (low≤n∧n≤high)))):=by
 refine Ql Tryz.func94 rfl rfl Tryz.ntmps94 fun O_ hO w0_ N0_ X_ h0_ f0_=> ?_
 refine acI 0 fun hi1=> ?_
 refine acI 1 fun hi2=> ?_
 refine acI 2 fun hi3=> ?_
 iterate 8 refine w_ ?_
 cases hb4:(decide (low≤n))
 ·have hb4':=ab hb4
  iterate 6 refine w_ ?_
  refine Qb<|fqB hO ?_
  (rw[bU]; simp; omega)
 ·have hb4':=ae hb4
  iterate 6 refine w_ ?_
  refine Qb<|fqB hO ?_
  (simp_all; done)
theorem YT (n:Int)(lo:Int)(hi:Int):FC Tryz.prog 132 [(false,[dI n]),(false,[dI lo]),(false,[dI hi])] [] 0 (QH (lB (decide (lo≤n∧n≤hi)))):=by
 refine Ql Tryz.func132 rfl rfl Tryz.ntmps132 fun O_ hO w0_ N0_ X_ h0_ f0_=> ?_
 refine acI 0 fun hi1=> ?_
 refine acI 1 fun hi2=> ?_
 refine acI 2 fun hi3=> ?_
 iterate 8 refine w_ ?_
 cases hb4:(decide (lo≤n))
 ·have hb4':=ab hb4
  iterate 6 refine w_ ?_
  refine Qb<|fqB hO ?_
  (rw[bU]; simp; omega)
 ·have hb4':=ae hb4
  iterate 6 refine w_ ?_
  refine Qb<|fqB hO ?_
  (simp_all; done)
theorem KD (l:List Int)(hl:l.length≤2000000):FC Tryz.prog 287 [(false,[.dat (.sl 3 .int) l])] [] 0 (WC 3 .int l):=by
 refine Ql Tryz.func287 rfl rfl Tryz.ntmps287 fun O_ hO w0_ N0_ X_ h0_ f0_=> ?_
 iterate 4 refine w_ ?_
 refine lc (dBs 0 (e:= .int) Vu) ?_
 refine w_ ?_
 refine lc (Za 1 (Qa rfl) rfl (Evl.rep (Qa rfl)) rfl Xq Vz (by first | omega | (simp only[ai,aP,aq,au,aF]; omega) | (simp only[ai,bd,aq,au,aF]; omega)) rfl (Fresh.of rfl) (nlr rfl)) ?_
 iterate 2 refine w_ ?_
 refine Qb<|fo_ hO ?_
 rfl
theorem Qol {α:Type _}(f:α→Nat){xs:List α}{x:α}(h:x∈xs):f x≤(xs.map f).sum:=by
  induction xs with
  | nil=>cases h
  | cons y ys ih=>
    simp only[bg,List.sum_cons]
    rcases aE.1 h with rfl | h
    · omega
    · have:=ih h; omega
theorem QnN {n:Y0}(hz:Ty.tot Hm n≤2000000):n.2.length≤2000000:=by
  have:Ty.tot Hm n=0+(n.2.length+(n.2.map (Ty.tot Q8)).sum):=rfl
  omega
theorem Qc3 {s:Zq}(hz:Ty.tot Qah s≤2000000):Ty.tot Hm s.1≤2000000∧s.2.1.length≤2000000∧s.2.2.1.length≤2000000:=by
  have:Ty.tot Qah s=Ty.tot Hm s.1+((s.2.1.length+(s.2.1.map (Ty.tot YR)).sum)+((s.2.2.1.length+(s.2.2.1.map (Ty.tot QeZ)).sum)+s.2.2.2.size)):=rfl
  omega
theorem Qkt {n:Y0}(hz:Ty.tot Hm n≤2000000):∀t∈n.2,t.1.length≤2000000∧t.2.length≤2000000:=fun t ht=>by
  have h1:Ty.tot Hm n=0+(n.2.length+(n.2.map (Ty.tot Q8)).sum):=rfl
  have h2:=Qol (Ty.tot Q8) ht
  have h3:Ty.tot Q8 t=(t.1.length+(t.1.map (Ty.tot .int)).sum)+(t.2.length+(t.2.map (Ty.tot .int)).sum):=rfl
  omega
theorem QbY (n:Int×(List (List Int×List Int)))(hz:Ty.tot Hm n≤2000000):FC Tryz.prog 377 [(true,[dI n.1, .dat (.sl 237 (.pr (.sl 3 .int) (.sl 3 .int))) n.2])] [] 0 (Is (ag [dI n.1, .ref 0]) [ar 0 237 (.pr (.sl 3 .int) (.sl 3 .int)) n.2]):=by
 have hm:=QnN hz
 have hp:=Qkt hz
 refine Ql Tryz.func377 rfl rfl Tryz.ntmps377 fun O_ hO w0_ N0_ X_ h0_ f0_=> ?_
 refine acG 0 0 fun hi1=> ?_
 refine w_ ?_
 refine xbx 0 ?_
 refine lc (xal 1 (.pr .int (.sl 237 (.pr (.sl 3 .int) (.sl 3 .int)))) Hz) ?_
 iterate 4 refine w_ ?_
 refine lc (Qp Qeb ⟨_,_,rfl,(Qm rfl),rfl⟩ (aB.1 rfl) rfl rfl)<|lc (xal 2 (.pr .int (.sl 237 (.pr (.sl 3 .int) (.sl 3 .int)))) Hz) ?_
 iterate 6 refine w_ ?_
 refine alL 10 fun hl2=> ?_
 iterate 4 refine w_ ?_
 refine AC.wk (Qu 3 (p:=2) (off:=1) 237 (.pr (.sl 3 .int) (.sl 3 .int)) rfl rfl (Fresh.of rfl) (nlr rfl)) ?_
 refine lp0 n.2.length (fun k=>⟨[(2,lP 1 0),(3,lP 2 0),(10,lf (.dat (.sl 237 (.pr (.sl 3 .int) (.sl 3 .int))) n.2)),(11,lI (n.2.length:Int)),(12,lI (k:Int))],[bx 1 80 [dI 0, .val (.slice none 0 0)],bx 2 80 [dI n.1, .ref 4],ar 4 237 (.pr (.sl 3 .int) (.sl 3 .int)) (n.2.take k)]⟩) ?_ fun k hk3=> ?_
 · exact Wk.of [(4,3)] rfl ⟨rfl,rfl,rfl,rfl,rfl,trivial⟩ ⟨rfl,rfl,(Qn (by first | rfl | simp)),trivial⟩ rfl rfl
 iterate 4 refine w_ ?_
 cases hb4:(decide ((k:Int) < (n.2.length:Int)))
 ·have hb4':=ab hb4
  refine w_ ?_
  refine Qj ?_
  refine (?_:AC _ _ _ _ _)
  iterate 4 refine w_ ?_
  refine Qb ?_
  exact fi_ [(0,4)] hO ⟨(Qn (by rw[ZK (by omega)])),trivial⟩
 ·have hb4':=ae hb4
  iterate 5 refine w_ ?_
  obtain ⟨x5,hx6⟩:∃z,n.2[k]? =some z:=⟨_,aa (by omega)⟩
  iterate 2 refine w_ ?_
  refine lc (xal 5 (.pr (.sl 3 .int) (.sl 3 .int)) V2) ?_
  iterate 2 refine w_ ?_
  apply dV (i4 16 _ _ _ _ [⟨some 20,lR 6,[ar 6 3 .int x5.1]⟩,io 21 (lP 5 1),io 22 (lf (.dat (.sl 3 .int) x5.2)),⟨some 23,lR 7,[ar 7 3 .int x5.2]⟩,io 24 (ag [.ref 6, .ref 7]),⟨some 25,lR 8,[ar 8 237 (.pr (.sl 3 .int) (.sl 3 .int)) ([(x5.1,x5.2)]),(6,none),(7,none)]⟩,⟨some 26,lR 9,[ar 9 237 (.pr (.sl 3 .int) (.sl 3 .int)) ((n.2.take k)++([(x5.1,x5.2)])),(4,none),(8,none)]⟩,io 27 _,⟨none,lf (.val undef),[bx 2 80 [dI n.1, .ref 9]]⟩]) [0,0,3,3,3,31,31,3,3,3,0,0,0]
  iterate 4 refine z_ ?_
  refine zz (fun _ h_=>ac (dO 6 (KD x5.1 (by have:=hp _ (ap ‹_›); omega)) QcG) rfl) ?_
  iterate 2 refine z_ ?_
  refine zz (fun _ h_=>ac (dO 7 (KD x5.2 (by have:=hp _ (ap ‹_›); omega)) QcG) rfl) ?_
  refine zz (fun _ h_=>ac (Qp Qa4 ⟨_,_,rfl,(h_.w rfl),⟨_,_,rfl,(h_.w rfl),rfl⟩⟩ (aB.1 (by simp only[Q6,Vb,bm,bJ]; rw[(h_.en 6 rfl),(h_.en 7 rfl)]; rfl)) rfl rfl) rfl)<|zz (fun _ h_=>ac (X7 8 (e:=(.pr (.sl 3 .int) (.sl 3 .int))) HT UZ V2 rfl ⟨_,_,rfl,(h_.w rfl),rfl⟩ (aB.1 (by simp only[Q6,Vb,bm,bJ]; rw[(h_.en 6 rfl),(h_.en 7 rfl)]; rfl)) ⟨_,_,_,_,rfl,⟨[.ref 6],[.ref 7],_,_,_,_,rfl,rfl,(.inl ⟨_,rfl,(h_.en 6 rfl),rfl⟩),(.inl ⟨_,rfl,(h_.en 7 rfl),rfl⟩),rfl⟩,⟨rfl,rfl⟩,rfl⟩ (by decide) rfl rfl (h_.fr 8 rfl) (nlr rfl)) rfl) ?_
  refine zz (fun _ h_=>ac (dA 9 QaZ) rfl) ?_
  refine z_ ?_
  refine zz (fun _ h_=>ac (Zf (h_.v rfl) (h_.en 2 rfl) (h_.w rfl) (by simp only[Q6,Vb,bm,bJ]; rw[(h_.en 9 rfl)]; rfl) Qnu rfl) rfl) ?_
  exact zN
  refine (?_:AC _ _ _ _ _)
  iterate 3 refine w_ ?_
  refine Qd ?_
  refine l0_ ?_
  exact Wk.of [(4,9)] rfl ⟨rfl,rfl,rfl,rfl,rfl,trivial⟩ ⟨rfl,rfl,(Qn (by rw[QQ hx6])),trivial⟩ rfl rfl
def Qg4 (b:Int)(t:QP):QP:=(t.1.map fun x=>x+b,t.2.map fun x=>x+b)
end Go.Proofs.YtfkmmpfdncopdaaGreat
namespace Go.Proofs.YtfkmmpfdncopdaaGreat
open Go.RowKit
set_option maxRecDepth 100000
set_option maxHeartbeats 4000000
theorem QtQ {us:List Value}(h:us.length=5):∃a0 a1 a2 a3 a4,us=[a0,a1,a2,a3,a4]:=by
  match us,h with
  | [a0,a1,a2,a3,a4],_=>exact ⟨_,_,_,_,_,rfl⟩
theorem Js {p:Prop}[Decidable p]{w:World}{e:Ending}{w':World}(h:RetB p w e w'):RetB (decide p=true) w e w':=by
  obtain ⟨b,h1,h2,h3⟩:=h
  exact ⟨b,h1,by rw[h2,aV],h3⟩
theorem Xn (s:Zq)[Decidable (StgOk s)]:FC Tryz.prog 141 [(true,leaves Qah s)] [] 0 (QH (lf (dB (decide (StgOk s))))):=QeY fun gh w vs h=>by
  obtain ⟨us,rfl,hr⟩:=h.agg1
  obtain ⟨a0,a1,a2,a3,a4,rfl⟩:=QtQ hr.len
  exact (Qil a0 a1 a2 a3 a4 s w hr).mono fun _ _ h=>Js h
def Qtc (ts:List QP)(a b:Nat)(p:Int):List QP:=(ts.modify a fun t=>(t.1,t.2++[p])).modify b fun t=>(t.1++[p],t.2)
def YH (b:Bool):ByteArray:=⟨#[if b then 49 else 48]⟩
def HV (s:Zq)(o:Yw):Zq:=((s.1.1+1,Qtc s.1.2 o.1.toNat o.2.1.toNat s.1.1),s.2.1,s.2.2.1,s.2.2.2++YH o.2.2)
theorem Qfz {ts:List QP}{i:Nat}{x:QP}(h:ts[i]? =some x):(Q9 Q8 ts)[i*2+1]? =some (.dat (.sl 3 .int) x.2)∧(Q9 Q8 ts)[i*2+0]? =some (.dat (.sl 3 .int) x.1):=
  ⟨K6 (e:=Q8) (j:=1) h rfl,K6 (e:=Q8) (j:=0) h rfl⟩
theorem Qhs {ts:List QP}{i:Nat}{x:QP}{ys:List Int}(h:ts[i]? =some x):(Q9 Q8 ts).set (i*2+1) (.dat (.sl 3 .int) ys)=Q9 Q8 (ts.set i (x.1,ys)):=
  (KI (e:=Q8) (j:=1) (x':=(x.1,ys)) h rfl (by decide)).symm
theorem Qio {ts:List QP}{i:Nat}{x:QP}{ys:List Int}(h:ts[i]? =some x):(Q9 Q8 ts).set (i*2+0) (.dat (.sl 3 .int) ys)=Q9 Q8 (ts.set i (ys,x.2)):=
  (KI (e:=Q8) (j:=0) (x':=(ys,x.2)) h rfl (by decide)).symm
theorem Qdi {s:Zq}(hz:Ty.tot Qah s≤2000000):s.2.2.2.size≤2000000:=by
  have:Ty.tot Qah s=Ty.tot Hm s.1+((s.2.1.length+(s.2.1.map (Ty.tot YR)).sum)+((s.2.2.1.length+(s.2.2.1.map (Ty.tot QeZ)).sum)+s.2.2.2.size)):=rfl
  omega
theorem Ya (b:UInt8):(⟨#[b]⟩:ByteArray).size=1:=rfl
theorem QtH {a n:Nat}(h:a < n):a*2+1 < n*2:=by omega
theorem Qtl {a n:Nat}(h:a < n):a*2+0 < n*2:=by omega
def JI:Zq:=((0,[]),[],[],ByteArray.empty)
def QpM (s:Zq)[Decidable (StgOk s)]:Zq×Bool:=if StgOk s then (s,true) else (JI,false)
end Go.Proofs.YtfkmmpfdncopdaaGreat
namespace Go.Proofs.YtfkmmpfdncopdaaGreat
open Go.RowKit
set_option maxRecDepth 100000
set_option maxHeartbeats 4000000
def Qmm (s:Zq)(o:Yw):Prop:=StgOk s∧(0≤o.1∧o.1 < s.1.2.length)∧(0≤o.2.1∧o.2.1 < s.1.2.length)∧o.1≠o.2.1
instance (s:Zq) (o:Yw) [Decidable (StgOk s)]:Decidable (Qmm s o):=inferInstanceAs (Decidable (_∧_))
def QsK (s:Zq)(o:Yw)[Decidable (StgOk s)][Decidable (StgOk (HV s o))]:Zq×Bool:=if Qmm s o then QpM (HV s o) else (JI,false)
def Quo (s:Zq)(o:Yw)[Decidable (StgOk s)][Decidable (StgOk (HV s o))]:Zq×Bool:=if Qmm s o then (HV s o,decide (StgOk (HV s o))) else (JI,false)
section
variable {s:Zq}{o:Yw}[Decidable (StgOk s)][Decidable (StgOk (HV s o))]
end
end Go.Proofs.YtfkmmpfdncopdaaGreat
namespace Go.Proofs.YtfkmmpfdncopdaaGreat
open Go.RowKit
set_option maxRecDepth 100000
set_option maxHeartbeats 4000000
section
variable {α:Type _}(f:α→Int→α×Int)
def Qt:List α→Int→List α×Int
  | [],k=>([],k)
  | x :: xs,k=>((f x k).1 :: (Qt xs (f x k).2).1,(Qt xs (f x k).2).2)
def mkA (a:List α)(k:Int)(i:Nat):List α:=(Qt f (a.take i) k).1++a.drop i
def mkC (a:List α)(k:Int)(i:Nat):Int:=(Qt f (a.take i) k).2
variable {f}
end
@[reducible] def fI:Int→Int→Int×Int:=fun _ k=>(k,k+1)
@[reducible] def fL:Int×Bool→Int→(Int×Bool)×Int:=fun _ k=>((k,decide ((k+1) % 3=0)),k+2)
end Go.Proofs.YtfkmmpfdncopdaaGreat
namespace Go.Proofs.YtfkmmpfdncopdaaGreat
open Go.RowKit
set_option maxRecDepth 100000
set_option maxHeartbeats 4000000
@[reducible] def fT:List Int×List Int→Int→(List Int×List Int)×Int:=fun t k=>(((Qt fI t.1 k).1,(Qt fI t.2 (Qt fI t.1 k).2).1),(Qt fI t.2 (Qt fI t.1 k).2).2)
def cT (t:List Int×List Int):Nat:=t.1.length+t.2.length
def Qt9 (a:List (List Int×List Int)):Nat:=(a.map cT).sum
end Go.Proofs.YtfkmmpfdncopdaaGreat
namespace Go.Proofs.YtfkmmpfdncopdaaGreat
open Go.RowKit
set_option maxRecDepth 100000
set_option maxHeartbeats 4000000
def dg (k:Int):Nat→ByteArray
  | 0=>(⟨#[]⟩:ByteArray)
  | j+1=>(⟨#[UInt8.ofNat ((48+(k / 10 ^ j) % 10):Int).toNat]⟩:ByteArray)++dg k j
def mt (k:Int):Nat→Nat→ByteArray
  | 0,j=>dg k j
  | n+1,j=>if k / 10 ^ j≤0 then dg k j else mt k n (j+1)
def Qro (k:Int):ByteArray:=if k≤0 then (⟨#[109,48]⟩:ByteArray) else (⟨#[109]⟩:ByteArray)++mt k 20 0
end Go.Proofs.YtfkmmpfdncopdaaGreat
namespace Go.Proofs.YtfkmmpfdncopdaaGreat
open Go.RowKit
set_option maxRecDepth 100000
set_option maxHeartbeats 4000000
@[reducible] def fS:ByteArray×Int→Int→(ByteArray×Int)×Int:=fun _ k=>((Qro k,k+1),k+2)
def Qui (s:Zq)(k:Int):Zq×Int:=(((s.1.1,(Qt fT s.1.2 k).1),(Qt fS s.2.1 (Qt fT s.1.2 k).2).1,(Qt fL s.2.2.1 (Qt fS s.2.1 (Qt fT s.1.2 k).2).2).1,s.2.2.2),(Qt fL s.2.2.1 (Qt fS s.2.1 (Qt fT s.1.2 k).2).2).2)
end Go.Proofs.YtfkmmpfdncopdaaGreat
namespace Go.Proofs.YtfkmmpfdncopdaaGreat
open Go.RowKit
set_option maxRecDepth 100000
set_option maxHeartbeats 4000000
section
variable [∀s,Decidable (StgOk s)]
def Qr4:Zq→List Yw→Zq×Bool
  | s,[]=>(s,true)
  | s,o :: os=>if (QsK s o).2=true then Qr4 (QsK s o).1 os else (JI,false)
def Qtw (s:Zq)(l:List Yw):Zq×Bool:=if StgOk s∧l.length≤6 then Qr4 s l else (JI,false)
end
@[reducible] def Qrd:(Yw)→Int→(Yw)×Int:=fun _ k=>((k,k+1,decide ((k+1+1) % 3=0)),k+1+1+1)
end Go.Proofs.YtfkmmpfdncopdaaGreat
