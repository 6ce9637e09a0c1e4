/- Walks over abstract states: slices.Repeat of one number. -/
import Derived.Test.YtnakmhfjafecpaaGreatWy
import Derived.Test.YtnakmhfjafecpaaGreatAk
import Derived.Laws.Bits64b
set_option linter.unusedSimpArgs false
set_option linter.unusedVariables false
set_option linter.unusedSectionVars false
namespace Go.Proofs.YtnakmhfjafecpaaGreat
set_option maxHeartbeats 4000000
set_option maxRecDepth 100000
open Go.RowKit
set_option maxRecDepth 100000
set_option maxHeartbeats 4000000
section
variable {A:Amb}{P:Program}{s:St}{x y:Operand}{d:Nat}{T T' ty:TypeId}{pos:String}{af:Array Edge}{g:Option (Nat×Bool)}{n a b:Int}
theorem QgI (h:0≤n∧n≤9223372036854775807):IntKind.u64.wrap n=n:=by
  simp[IntKind.wrap,IntKind.bits,IntKind.signed]
  omega
theorem QlI (h:0≤n∧n≤9223372036854775807):IntKind.i64.wrap n=n:=IntWalk.i64_in _ (by omega)
theorem Qdf (hx:Evl A s x (dI n))(hs:P.underlying T=some (.int .i64))(hd:P.underlying T'=some (.int .u64))(h0:0≤n)(hn:Nat.blt d A.n=true):
    Does A P ⟨some d, .convert T T' x,ty,pos,af,g⟩ s (s.put d (lf (.val (.int .u64 n)))):=
  Qu rfl hn fun gh a w r=>by
    have h2:=hx.i r
    have h3:=(LVR.int (hx gh a w r)).2
    have e2:=QgI (n:=n) (by omega)
    refine ⟨.int .u64 n, ?_,_,rfl,rfl⟩
    simp only[execOp,h2,convert,run_underlying hs,run_underlying hd,Go.Sem.run_bind,Result.andThen_ok,Conv.intToInt,e2]
    simp
theorem QhV (hx:Evl A s x (.val (.int .u64 n)))(hs:P.underlying T=some (.int .u64))(hd:P.underlying T'=some (.int .i64))(h0:0≤n∧n≤9223372036854775807)(hn:Nat.blt d A.n=true):
    Does A P ⟨some d, .convert T T' x,ty,pos,af,g⟩ s (s.put d (lf (dI n))):=
  Qu rfl hn fun gh a w r=>by
    have h2:a.eval x= .int .u64 n:=hx gh a w r
    have e2:=QlI h0
    refine ⟨.int .i64 n, ?_,_,rfl,YA (by omega)⟩
    simp only[execOp,h2,convert,run_underlying hs,run_underlying hd,Go.Sem.run_bind,Result.andThen_ok,Conv.intToInt,e2]
    simp
theorem QdF (hx:Evl A s x (.val (.int .u64 a)))(hy:Evl A s y (.val (.int .u64 b)))(hn:Nat.blt d A.n=true):Does A P ⟨some d, .binOp .gtr T x y T',ty,pos,af,g⟩ s (s.put d (lf (dB (decide (b < a))))):=
  Qu rfl hn fun gh a' w r=>by
    have h1:a'.eval x= .int .u64 a:=hx gh a' w r
    have h2:a'.eval y= .int .u64 b:=hy gh a' w r
    refine ⟨.bool (decide (b < a)), ?_,_,rfl,Yr⟩
    simp only[execOp,h1,h2,eqGuard_at_int,binOp,Op.intCmp]
    simp
end
theorem Qm3 (n:Nat)(hn:n≤1000000):bits BinOp.and IntKind.u64 (n:Int) 4294967295=n:=by
  have h:=bits_and_u64_nat n 4294967295 (by omega) (by decide)
  rw[show ((4294967295:Nat):Int)=4294967295 from rfl] at h
  rw[h,show (4294967295:Nat)=2 ^ 32 - 1 from rfl,Nat.and_two_pow_sub_one_eq_mod,Nat.mod_eq_of_lt (by omega)]
theorem QnH (n:Nat)(w:World)(hn:n≤1000000):Calls Tryz.prog 274 #[.int .u64 1, .int .u64 n] w fun e w'=>e= .returned (.tuple #[.int .u64 0, .int .u64 n])∧w'=w:=by
  have h1:bits BinOp.and IntKind.u64 1 4294967295=1:=by decide
  have h2:=Qm3 n hn
  have h3:(n:Int) / 4294967296=0:=by omega
  have h4:=QgI (n:=n) (by omega)
  have h5:IntKind.u64.wrap 0=0:=by decide
  have h6:bits BinOp.and IntKind.u64 0 4294967295=0:=by decide
  go_enter Tryz.func274,Tryz.ntmps274
  go_wp2
  go_ret2
  exact ⟨rfl,rfl⟩
theorem Qo4 (a n:Int)(ha:a=1)(hn:0≤n∧n≤1000000):FC Tryz.prog 274 [(false,[.val (.int .u64 a)]),(false,[.val (.int .u64 n)])] [] 0 (Zy (.tup [(false,[.val (.int .u64 0)]),(false,[.val (.int .u64 n)])])):=Qis fun gh w vs h=>by
  obtain ⟨v1,vs1,rfl,⟨l1,e1,k1⟩,v2,vs2,rfl,⟨l2,e2,k2⟩,rfl⟩:=h
  simp only[List.cons.injEq,and_true] at e1 e2
  subst e1 e2 ha
  have k1:v1= .int .u64 1:=k1
  have k2:v2= .int .u64 n:=k2
  subst k1 k2
  obtain ⟨m,rfl⟩:∃m:Nat,n=m:=⟨n.toNat,by omega⟩
  refine Calls.mono (QnH m w (by omega)) fun e w' he=> ?_
  obtain ⟨rfl,rfl⟩:=he
  exact ⟨_,rfl,Q1 _,[.int .u64 0, .int .u64 m],rfl,_,_,rfl,⟨_,rfl,rfl⟩,_,_,rfl,⟨_,rfl,rfl⟩,rfl⟩
theorem Qjv {v:Int}{m k:Nat}:cpy (List.replicate m v++List.replicate k (0:Int)) m k ((((List.replicate m v++List.replicate k (0:Int))).take (0+m)).drop 0)=List.replicate (m+min m k) v++List.replicate (k - min m k) 0:=by
  have h1:(List.replicate m v++List.replicate k (0:Int)).take m=List.replicate m v:=List.take_left' (by simp)
  have h2:(List.replicate m v++List.replicate k (0:Int)).drop (m+min m k)=List.replicate (k - min m k) 0:=by
    rw[List.drop_append,List.length_replicate,List.drop_eq_nil_of_le (by simp),List.nil_append,List.drop_replicate]
    congr 1
    omega
  rw[cpy,Nat.zero_add,List.drop_zero,h1,List.length_replicate,h2,List.take_replicate,Nat.min_eq_left (Nat.min_le_left _ _),List.replicate_append_replicate]
theorem QkN {n v:Int}(hn:0≤n):cpy (List.replicate n.toNat (Ty.zero .int)) 0 (List.replicate n.toNat (Ty.zero .int)).length [v]=List.replicate (((min [v].length (List.replicate n.toNat (Ty.zero .int)).length:Nat):Int)).toNat v++List.replicate (n.toNat - (((min [v].length (List.replicate n.toNat (Ty.zero .int)).length:Nat):Int)).toNat) 0:=by
  have h:=Qjv (v:=v) (m:=0) (k:=n.toNat)
  have e:(Ty.zero .int:Int)=0:=rfl
  cases hk:n.toNat with
  | zero=>simp[cpy]
  | succ k=>simp[cpy,e,List.replicate_succ]
theorem QkC {n m v:Int}{l:List Int}(h0:0≤m)(h1:m≤n)(hl:l=List.replicate m.toNat v++List.replicate (n.toNat - m.toNat) 0)(hL:l.length=n.toNat):
    cpy l m.toNat (l.length - m.toNat) ((l.take (0+m.toNat)).drop 0)=List.replicate (m+((min ((l.take (0+m.toNat)).drop 0).length (l.length - m.toNat):Nat):Int)).toNat v++List.replicate (n.toNat - (m+((min ((l.take (0+m.toNat)).drop 0).length (l.length - m.toNat):Nat):Int)).toNat) 0:=by
  have hlen:((l.take (0+m.toNat)).drop 0).length=m.toNat:=by simp[hL]; omega
  rw[hlen,hL]
  rw[hl,Qjv]
  congr 2 <;> omega
theorem V3 (s:List Int)(n:Int)(v:Int)(hs:s=[v])(hn:0≤n∧n≤1000000):FC Tryz.prog 225 [(false,[.dat (.sl 3 .int) s]),(false,[dI n])] [] 0 (XZ 3 .int (List.replicate n.toNat v)):=by
 have hs1:(s.length:Int)=1:=by rw[hs]; rfl
 have hneg:decide (n < 0)=false:=decide_eq_false (by omega)
 have hbig:decide ((9223372036854775807:Int) < n)=false:=decide_eq_false (by omega)
 have hrl:(List.replicate n.toNat (Ty.zero .int)).length=n.toNat:=List.length_replicate ..
 refine QQ Tryz.func225 rfl rfl Tryz.ntmps225 fun O_ hO w0_ N0_ X_ h0_ f0_=> ?_
 refine AC.fact (Qs (x:= .tmp 1) (Qa rfl)) fun hi1=> ?_
 iterate 8 refine w_ ?_
 cases hb2:(decide (n < 0))
 ·have hb2':=of_decide_eq_false hb2
  iterate 4 refine w_ ?_
  refine AL.fact (QB (x:= .tmp 13) (Qa rfl)) fun hl3=> ?_
  refine w_ ?_
  refine lc (Qdf (Qa rfl) QdP Qfa (by omega) rfl) ?_
  refine w_ ?_
  refine lc (Qdf (Qa rfl) QdP Qfa (by omega) rfl)<|lc (Qh (Qo4 (s.length:Int) n hs1 hn) Qiw ⟨_,_,rfl,(Qb rfl),⟨_,_,rfl,(Qb rfl),rfl⟩⟩ rfl rfl) ?_
  iterate 9 refine w_ ?_
  refine lc (QdF (Qa rfl) Evl.val rfl) ?_
  refine w_ ?_
  cases hb4:(decide ((0:Int) < (0:Int)))
  ·have hb4':=of_decide_eq_false hb4
   refine w_ ?_
   refine lgy rfl rfl (QdF (Qa rfl) Evl.val rfl) ?_
   iterate 2 refine w_ ?_
   cases hb5:(decide ((9223372036854775807:Int) < n))
   ·have hb5':=of_decide_eq_false hb5
    iterate 4 refine w_ ?_
    refine lc (QhV (Qa rfl) Qfa QdP (by omega) rfl)<|lc (QcS 0 (e:= .int) (n:=n) (Qa rfl) (Qa rfl) QO Qjt rfl (by omega) (by omega) (by omega) rfl (Fresh.of rfl) (nlr rfl)) ?_
    iterate 5 refine w_ ?_
    refine lc (QbR (e:= .int) (xs:=List.replicate (n).toNat (Ty.zero .int)) (lo:=0) (n:=(List.replicate (n).toNat (Ty.zero .int)).length) (ys:=s) (Qlr (Qa rfl) rfl) rfl (by omega) (Evl.rep (Qa rfl)) rfl rfl QO Qjt rfl) ?_
    iterate 4 refine w_ ?_
    refine Qy (fun m_ s_=>∃(m:Int) (l:List Int),m_=(n - m).toNat∧(0≤m∧m≤n∧(0 < n→0 < m))∧(l=List.replicate m.toNat v++List.replicate (n.toNat - m.toNat) 0)∧(l.length=n.toNat)∧s_=⟨[(4,lf (.val (.slice none 0 0))),(7,lR 1),(8,lI m)],[(1,some (.arr 3 .int l))]⟩) ⟨((min s.length ((List.replicate (n).toNat (Ty.zero .int)).length):Nat):Int),cpy (List.replicate (n).toNat (Ty.zero .int)) 0 ((List.replicate (n).toNat (Ty.zero .int)).length) s,rfl,(by rw[hrl,hs]; simp; omega),(by rw[hs]; exact QkN hn.1),(by rw[QeE (by omega)]; exact hrl),rfl⟩ ?_ ?_
    · exact Wk.of [(1,0)] rfl ⟨rfl,rfl,rfl,trivial⟩ ⟨(Qv (by first | rfl | simp)),trivial⟩ rfl rfl
    rintro m_ s_ ⟨m,l,hm7,hm,hl,hL,rfl⟩
    iterate 7 refine w_ ?_
    cases hb8:(decide (m < (l.length:Int)))
    ·have hb8':=of_decide_eq_false hb8
     refine w_ ?_
     refine QA ?_
     refine (?_:AC _ _ _ _ _)
     iterate 4 refine w_ ?_
     refine Qe ?_
     subst hO
     refine ZC (e:= .int) (xs:=l) (Qd rfl (Qc rfl)) rfl ?_
     rw[hl,show n.toNat - m.toNat=0 by omega,show m.toNat=n.toNat by omega]; simp
    ·have hb8':=of_decide_eq_true hb8
     iterate 3 refine w_ ?_
     refine dv [io 38 (lI m),io 39 (lR 1),io 40 (lI m),io 41 (lf (.sub 1 1 ((m).toNat) (l.length - (m).toNat))),io 42 (lR 1),io 43 (lI m),io 44 (lf (.sub 1 1 0 ((m).toNat))),⟨some 45,lI ((min ((l.take (0+((m).toNat))).drop 0).length (l.length - (m).toNat):Nat):Int),[(1,some (.arr 3 .int (cpy l ((m).toNat) (l.length - (m).toNat) ((l.take (0+((m).toNat))).drop 0))))]⟩,io 46 (lI (m+((min ((l.take (0+((m).toNat))).drop 0).length (l.length - (m).toNat):Nat):Int))),io 8 (lI (m+((min ((l.take (0+((m).toNat))).drop 0).length (l.length - (m).toNat):Nat):Int)))] [0,0,0,6,0,0,48,126,255,511] mixed rfl (by kernel_rfl) ⟨dxm rfl rfl,dxm rfl rfl,dxm rfl rfl,fun _ h_=>ac (YD (e:= .int) (a:=(m).toNat) (b:=l.length - (m).toNat) (l:=(some m)) (h:=none) (h_.v rfl) (h_.en 1 rfl) (by exact (h_.v rfl)) (by exact trivial) QO QD rfl (by first | (simp only[Option.getD_none,Option.getD_some]; omega) | omega | (simp only[Option.getD_none,Option.getD_some,List.length_append,List.length_take,List.length_replicate]; omega)) (by first | (simp only[Option.getD_none,Option.getD_some]; omega) | omega | (simp only[Option.getD_none,Option.getD_some,List.length_append,List.length_take,List.length_replicate]; omega)) (by first | (simp only[Option.getD_none,Option.getD_some]; omega) | omega | (simp only[Option.getD_none,Option.getD_some,List.length_append,List.length_take,List.length_replicate]; omega)) (by first | rfl | simp) (by first | rfl | simp)) rfl,dxm rfl rfl,dxm rfl rfl,fun _ h_=>ac (YD (e:= .int) (a:=0) (b:=(m).toNat) (l:=none) (h:=(some m)) (h_.v rfl) (h_.en 1 rfl) (by exact trivial) (by exact (h_.v rfl)) QO QD rfl (by first | (simp only[Option.getD_none,Option.getD_some]; omega) | omega | (simp only[Option.getD_none,Option.getD_some,List.length_append,List.length_take,List.length_replicate]; omega)) (by first | (simp only[Option.getD_none,Option.getD_some]; omega) | omega | (simp only[Option.getD_none,Option.getD_some,List.length_append,List.length_take,List.length_replicate]; omega)) (by first | (simp only[Option.getD_none,Option.getD_some]; omega) | omega | (simp only[Option.getD_none,Option.getD_some,List.length_append,List.length_take,List.length_replicate]; omega)) (by first | rfl | simp) (by first | rfl | simp)) rfl,fun _ h_=>ac (QbR (e:= .int) (xs:=l) (lo:=(m).toNat) (n:=l.length - (m).toNat) (ys:=(l.take (0+((m).toNat))).drop 0) (Qms (h_.v rfl) (h_.en 1 rfl)) (h_.en 1 rfl) (by omega) (Vt (e:= .int) (h_.v rfl) (h_.en 1 rfl) (by omega)) rfl rfl QO Qjt rfl) rfl,fun _ h_=>ac (Uw (h_.v rfl) (h_.v rfl) rfl (by omega)) rfl,dxt rfl rfl,⟨⟩⟩<|QS ⟨(m+((min ((l.take (0+((m).toNat))).drop 0).length (l.length - (m).toNat):Nat):Int)),(cpy l ((m).toNat) (l.length - (m).toNat) ((l.take (0+((m).toNat))).drop 0)),rfl,(by simp only[List.length_drop,List.length_take,hL]; omega),(QkC hm.1 hm.2.1 hl hL),(by rw[QeE (by omega)]; exact hL),rfl⟩ (by simp only[List.length_drop,List.length_take,hL]; omega) ?_
     exact Wk.of [(1,1)] rfl ⟨rfl,rfl,rfl,trivial⟩ ⟨(Qv (by first | rfl | simp)),trivial⟩ rfl rfl
   · exact absurd (hb5.symm.trans (show (decide ((9223372036854775807:Int) < n))=false from hbig)) (by decide)
  · exact absurd (hb4.symm.trans (show (decide ((0:Int) < (0:Int)))=false from (by decide))) (by decide)
 · exact absurd (hb2.symm.trans (show (decide (n < 0))=false from hneg)) (by decide)
end Go.Proofs.YtnakmhfjafecpaaGreat
namespace Go.Proofs.YtnakmhfjafecpaaGreat
set_option maxHeartbeats 4000000
set_option maxRecDepth 100000
open Go.RowKit
set_option maxRecDepth 100000
set_option maxHeartbeats 4000000
def Qag (l:List (List Int))(e:Int×Int):List (List Int):=l.modify e.1.toNat (· ++[e.2])
def ZG (n:Nat)(es:List (Int×Int)):List (List Int):=es.foldl Qag (List.replicate n [])
def bfT (o:Int):List Int→List Int×List Int→List Int×List Int
  | [],st=>st
  | t :: ts,st=>if (st.1[t.toNat]?).getD 0 < 0 then bfT o ts (st.1.set t.toNat ((st.1[o.toNat]?).getD 0+1),st.2++[t]) else bfT o ts st
def bfK (nx:List (List Int)):Nat→Nat→List Int×List Int→List Int
  | 0,_,st=>st.1
  | f+1,k,st=>match st.2[k]? with
    | none=>st.1
    | some o=>bfK nx f (k+1) (bfT o ((nx[o.toNat]?).getD []) st)
def UB (n:Nat)(es:List (Int×Int)):List Int:=bfK (ZG n es) (n+1) 0 ((List.replicate n (-1)).set 0 0,[0])
def Qdp (l:List Int):Nat:=(l.filter (· < 0)).length
structure BI (n:Nat) (es:List (Int×Int)) (st:List Int×List Int):Prop where
  len:st.1.length=n
  cnt:Qdp st.1+st.2.length=n
  q:∀x∈st.2,(0≤x∧x < n)∧Rch es x∧∃v,st.1[x.toNat]? =some v∧0≤v
  nn:∀(i:Nat) v,st.1[i]? =some v→0≤v→(i:Int)∈st.2
  rng:∀v∈st.1, -1≤v∧v≤(st.2.length:Int)
section
variable {n k i f:Nat}{es:List (Int×Int)}{e:Int×Int}{l ts ys q out:List Int}{o t c w:Int}{nx:List (List Int)}{st:List Int×List Int}
theorem QiT {α:Type _}{l:List α}{i:Nat}{x:α}{g:α→α}(h:l[i]? =some x):l.set i (g x)=l.modify i g:=by
  apply List.ext_getElem?
  intro j
  rw[List.getElem?_modify]
  by_cases e:i=j
  · subst e; rw[List.getElem?_set_self (List.getElem?_eq_some_iff.1 h).1,h]; simp
  · rw[List.getElem?_set_ne e]; simp[e]
theorem Qlh {l:List (List Int)}:(es.foldl Qag l).length=l.length:=by
  induction es generalizing l with
  | nil=>rfl
  | cons e es ih=>rw[List.foldl_cons,ih]; simp[Qag]
theorem WH:(ZG n es).length=n:=by unfold ZG; rw[Qlh]; simp
theorem QcQ (hx:es[k]? =some e)(hy:(ZG n (es.take k))[e.1.toNat]? =some ys):(ZG n (es.take k)).set e.1.toNat (ys++[e.2])=ZG n (es.take (k+1)):=by
  rw[QiT (g:=(· ++[e.2])) hy,Za hx]
  simp[ZG,List.foldl_append,Qag]
theorem Qes {l:List (List Int)}{i:Nat}{t:Int}(hr:∀e∈es,0≤e.1):t∈((es.foldl Qag l)[i]?).getD []↔t∈(l[i]?).getD []∨(i < l.length∧((i:Int),t)∈es):=by
  induction es generalizing l with
  | nil=>simp
  | cons e es ih=>
    rw[List.foldl_cons,ih (fun e he=>hr e (List.mem_cons_of_mem _ he))]
    have h0:=hr e (List.mem_cons_self ..)
    have hl:(Qag l e).length=l.length:=by simp[Qag]
    rw[hl]
    have h1:t∈((Qag l e)[i]?).getD []↔t∈(l[i]?).getD []∨(i < l.length∧((i:Int),t)=e):=by
      unfold Qag
      rw[List.getElem?_modify]
      by_cases e2:e.1.toNat=i
      · cases h : l[i]? with
        | none=>
          have:=List.getElem?_eq_none_iff.1 h
          simp[e2]
          intro h3; omega
        | some x=>
          have:=(List.getElem?_eq_some_iff.1 h).1
          simp[e2,this]
          have:((i:Int),t)=e↔t=e.2:=⟨fun h=>by rw[← h],fun h=>Prod.ext (by show (i:Int)=e.1; omega) h⟩
          rw[this]
      · simp [e2]
        intro _ h3
        exact absurd (show e.1.toNat=i by rw[← h3]; rfl) e2
    rw[h1,List.mem_cons]
    constructor
    · rintro ((h | ⟨h, h2⟩) | ⟨h, h2⟩)
      · exact .inl h
      · exact .inr ⟨h, .inl h2⟩
      · exact .inr ⟨h, .inr h2⟩
    · rintro (h | ⟨h, h2 | h2⟩)
      · exact .inl (.inl h)
      · exact .inl (.inr ⟨h,h2⟩)
      · exact .inr ⟨h,h2⟩
theorem Qeu {i:Nat}(hr:∀e∈es,InE n e)(hy:(ZG n es)[i]? =some ys):t∈ys↔((i:Int),t)∈es:=by
  have h:=Qes (l:=List.replicate n []) (i:=i) (t:=t) (es:=es) (fun e he=>(hr e he).1.1)
  have hi:i < n:=by have:=(List.getElem?_eq_some_iff.1 hy).1; rwa [WH] at this
  change t∈((ZG n es)[i]?).getD []↔_ at h
  rw[hy] at h
  simpa [hi] using h
theorem QaT {i:Nat}(hy:(ZG n es)[i]? =some ys):ys.length≤es.length:=by
  have:∀(l:List (List Int)) (i:Nat) (ys:List Int),(es.foldl Qag l)[i]? =some ys→ys.length≤((l[i]?).getD []).length+es.length:=by
    clear hy
    induction es with
    | nil=>intro l i ys h; simp at h; simp[h]
    | cons e es ih=>
      intro l i ys h
      rw[List.foldl_cons] at h
      have:=ih _ _ _ h
      have h2:(((Qag l e)[i]?).getD []).length≤((l[i]?).getD []).length+1:=by
        unfold Qag
        rw[List.getElem?_modify]
        cases hl:l[i]? with
        | none=>simp
        | some x=>by_cases e2:e.1.toNat=i <;> simp[e2]
      rw[List.length_cons]; omega
  have h:=this _ _ _ hy
  have h0:(((List.replicate n ([]:List Int))[i]?).getD []).length=0:=by
    rw[List.getElem?_replicate]; split <;> rfl
  omega
theorem Qn8 (hx:ts[i]? =some t)(hc:out[t.toNat]? =some c)(hn:c < 0)(ho:out[o.toNat]? =some w):bfT o (ts.drop i) (out,q)=bfT o (ts.drop (i+1)) (out.set t.toNat (w+1),q++[t]):=by
  rw[K6 hx,bfT]
  simp[hc,ho,hn]
theorem Qlp (hx:ts[i]? =some t)(hc:out[t.toNat]? =some c)(hn:¬c < 0):bfT o (ts.drop i) (out,q)=bfT o (ts.drop (i+1)) (out,q):=by
  rw[K6 hx,bfT]
  simp only[hc,Option.getD_some,if_neg hn]
theorem QnG (h:ts.length≤i):bfT o (ts.drop i) st=st:=by rw[List.drop_eq_nil_of_le h,bfT]
theorem QoG (hq:q[k]? =some o)(hy:nx[o.toNat]? =some ts)(hk:k < n+1):bfK nx (n+1 - k) k (out,q)=bfK nx (n+1 - (k+1)) (k+1) (bfT o (ts.drop 0) (out,q)):=by
  rw[show n+1 - k=(n+1 - (k+1))+1 by omega,bfK]
  simp[hq,hy]
theorem QnX (h:q.length≤k):bfK nx f k (out,q)=out:=by
  cases f with
  | zero=>rfl
  | succ f=>rw[bfK]; simp[List.getElem?_eq_none h]
theorem QgB {l:List Int}(h:l[i]? =some c)(hc:c < 0)(hw:0≤w):Qdp (l.set i w)+1=Qdp l:=by
  induction l generalizing i with
  | nil=>simp at h
  | cons x l ih=>
    cases i with
    | zero=>
      simp only[List.getElem?_cons_zero,Option.some.injEq] at h
      subst h
      simp[Qdp,hc,show¬w < 0 by omega]
    | succ i=>
      have:=ih (i:=i) (by simpa using h)
      simp only[Qdp,List.set_cons_succ,List.filter_cons] at this ⊢
      split <;> simp_all
theorem BI.step (h:BI n es (out,q))(hr:∀e∈es,InE n e)(ho:o∈q)(he:(o,t)∈es)(hc:out[t.toNat]? =some c)(hn:c < 0)(hw:out[o.toNat]? =some w):BI n es (out.set t.toNat (w+1),q++[t]):=by
  obtain ⟨h1,h2,h3,h4,h5⟩:=h
  have hw0:0≤w:=by
    obtain ⟨_,_,v,h6,h7⟩:=h3 o ho
    have h6:out[o.toNat]? =some v:=h6
    rw[hw] at h6; cases h6; exact h7
  have hw1:=h5 w (List.mem_of_getElem? hw)
  have htl:=(List.getElem?_eq_some_iff.1 hc).1
  obtain ⟨_,ht0,ht1⟩:=hr _ he
  have ht0:0≤t:=ht0
  have ht1:t < (n:Int):=ht1
  refine ⟨by simpa using h1, ?_, ?_, ?_, ?_⟩
  · have h6 := QgB hc hn (show 0 ≤ w + 1 by omega)
    have h2:Qdp out+q.length=n:=h2
    show Qdp (out.set t.toNat (w+1))+(q++[t]).length=n
    rw[List.length_append,List.length_singleton]; omega
  · intro x hx
    show (0≤x∧x < n)∧Rch es x∧∃v,(out.set t.toNat (w+1))[x.toNat]? =some v∧0≤v
    rcases List.mem_append.1 hx with hx | hx
    · obtain ⟨h6, h7, v, h8, h9⟩ := h3 x hx
      refine ⟨h6,h7, ?_⟩
      by_cases e2:t.toNat=x.toNat
      · exact ⟨w+1,by rw[← e2,List.getElem?_set_self htl],by omega⟩
      · exact ⟨v,by rw[List.getElem?_set_ne e2]; exact h8,h9⟩
    · rw [List.mem_singleton] at hx
      subst hx
      exact ⟨⟨ht0,ht1⟩, .step (h3 o ho).2.1 he,w+1,List.getElem?_set_self htl,by omega⟩
  · intro i v hv h0
    have hv:(out.set t.toNat (w+1))[i]? =some v:=hv
    show (i:Int)∈q++[t]
    by_cases e2:t.toNat=i
    · exact List.mem_append.2 (.inr (by rw[List.mem_singleton]; omega))
    · rw [List.getElem?_set_ne e2] at hv
      exact List.mem_append.2 (.inl (h4 i v hv h0))
  · intro v hv
    show -1≤v∧v≤((q++[t]).length:Int)
    rw[List.length_append,List.length_singleton]
    have hw1':w≤(q.length:Int):=hw1.2
    rcases List.mem_or_eq_of_mem_set hv with h6 | h6
    · have h7 := h5 v h6
      have h8:v≤(q.length:Int):=h7.2
      omega
    · omega
theorem BI.q_le (h:BI n es (out,q)):q.length≤n:=by have:=h.cnt; simp only at this; omega
theorem BI.at_ (h:BI n es (out,q))(hq:q[k]? =some o):(0≤o∧o < n)∧o∈q:=⟨(h.q o (List.mem_of_getElem? hq)).1,List.mem_of_getElem? hq⟩
theorem Qe5 (hr:∀e∈es,InE n e):∀(ts:List Int) (st:List Int×List Int),BI n es st→o∈st.2→(∀t∈ts,(o,t)∈es)→BI n es (bfT o ts st)∧(∃r,(bfT o ts st).2=st.2++r)∧∀t∈ts,t∈(bfT o ts st).2
  | [],st,h,_,_=>⟨h,⟨[],by simp[bfT]⟩,fun t ht=>by cases ht⟩
  | t :: ts,st,h,ho,he=>by
    have he1:=he t (List.mem_cons_self ..)
    obtain ⟨_,ht0,ht1⟩:=hr _ he1
    have ht0:0≤t:=ht0
    have ht1:t < (n:Int):=ht1
    obtain ⟨c,hc⟩:∃c,st.1[t.toNat]? =some c:=⟨_,List.getElem?_eq_getElem (by rw[h.len]; omega)⟩
    obtain ⟨w,hw,_⟩:=(h.q o ho).2.2
    rw[bfT,hc,hw]
    simp only[Option.getD_some]
    split
    · rename_i hn
      have h2:=BI.step (out:=st.1) (q:=st.2) h hr ho he1 hc hn hw
      obtain ⟨g1,⟨r,g2⟩,g3⟩:=Qe5 hr ts _ h2 (List.mem_append.2 (.inl ho)) (fun t ht=>he t (List.mem_cons_of_mem _ ht))
      refine ⟨g1,⟨[t]++r,by rw[g2]; simp⟩,fun x hx=> ?_⟩
      rcases List.mem_cons.1 hx with rfl | hx
      · rw[g2]; simp
      · exact g3 x hx
    · rename_i hn
      obtain ⟨g1,⟨r,g2⟩,g3⟩:=Qe5 hr ts st h ho (fun t ht=>he t (List.mem_cons_of_mem _ ht))
      refine ⟨g1,⟨r,g2⟩,fun x hx=> ?_⟩
      rcases List.mem_cons.1 hx with rfl | hx
      · have := h.nn _ _ hc (by omega)
        rw[show ((x.toNat:Nat):Int)=x by omega] at this
        rw[g2]; exact List.mem_append.2 (.inl this)
      · exact g3 x hx
theorem QjY (hr:∀e∈es,InE n e):∀(f k:Nat) (st:List Int×List Int),BI n es st→n+1≤f+k→k≤st.2.length→(∀j o,j < k→st.2[j]? =some o→∀t,(o,t)∈es→t∈st.2)→
    ∃r,BI n es (bfK (ZG n es) f k st,st.2++r)∧∀o∈st.2++r,∀t,(o,t)∈es→t∈st.2++r
  | 0,k,st,h,hf,hk,_=>by have:=BI.q_le (out:=st.1) (q:=st.2) h; omega
  | f+1,k,st,h,hf,hk,hcl=>by
    rw[bfK]
    cases hq:st.2[k]? with
    | none=>
      refine ⟨[],by simpa using h,fun o ho t ht=> ?_⟩
      rw[List.append_nil] at ho ⊢
      obtain ⟨j,hj⟩:=List.mem_iff_getElem?.1 ho
      have h1:=(List.getElem?_eq_some_iff.1 hj).1
      have h2:=List.getElem?_eq_none_iff.1 hq
      exact hcl j o (by omega) hj t ht
    | some o=>
      simp only
      have ho:=List.mem_of_getElem? hq
      obtain ⟨ho0,ho1⟩:=(h.q o ho).1
      obtain ⟨ys,hy⟩:∃ys,(ZG n es)[o.toNat]? =some ys:=⟨_,List.getElem?_eq_getElem (by rw[WH]; omega)⟩
      rw[hy,Option.getD_some]
      have hm:∀t,t∈ys↔(o,t)∈es:=fun t=>by
        have:=Qeu (t:=t) hr hy
        rwa [show ((o.toNat:Nat):Int)=o by omega] at this
      obtain ⟨g1,⟨r,g2⟩,g3⟩:=Qe5 hr ys st h ho (fun t ht=>(hm t).1 ht)
      have hkl:=(List.getElem?_eq_some_iff.1 hq).1
      obtain ⟨r2,k1,k2⟩:=QjY hr f (k+1) (bfT o ys st) g1 (by omega) (by rw[g2,List.length_append]; omega) (fun j o' hj hjo t ht=>by
        rw[g2] at hjo ⊢
        rw[List.getElem?_append_left (by omega)] at hjo
        by_cases e2:j=k
        · subst e2
          rw[hq] at hjo; cases hjo
          rw[← g2]; exact g3 t ((hm t).2 ht)
        · exact List.mem_append.2 (.inl (hcl j o' (by omega) hjo t ht)))
      rw[g2,List.append_assoc] at k1 k2
      exact ⟨r++r2,k1,k2⟩
theorem BI.start (hn:1≤n):BI n es ((List.replicate n (-1)).set 0 0,[0]):=by
  have h0:(List.replicate n (-1:Int))[0]? =some (-1):=by rw[List.getElem?_replicate,if_pos (by omega)]
  refine ⟨by simp, ?_, ?_, ?_, ?_⟩
  · have h1 := QgB (w := 0) h0 (by decide) (by decide)
    have h2:Qdp (List.replicate n (-1:Int))=n:=by simp[Qdp]
    show Qdp ((List.replicate n (-1)).set 0 0)+1=n
    omega
  · intro x hx
    rw[List.mem_singleton.1 hx]
    exact ⟨⟨by omega,by omega⟩, .zero,0,List.getElem?_set_self (by simp; omega),by decide⟩
  · intro i v hv h1
    have hv:((List.replicate n (-1:Int)).set 0 0)[i]? =some v:=hv
    by_cases e2:0=i
    · subst e2; simp
    · rw [List.getElem?_set_ne e2, List.getElem?_replicate] at hv
      split at hv
      · cases hv; omega
      · cases hv
  · intro v hv
    show -1≤v∧v≤1
    rcases List.mem_or_eq_of_mem_set hv with h | h
    · rw[List.eq_of_mem_replicate h]; omega
    · omega
theorem QkX (hn:1≤n)(hr:∀e∈es,InE n e):∃r,BI n es (UB n es,[0]++r)∧∀o∈[0]++r,∀t,(o,t)∈es→t∈[0]++r:=
  QjY hr (n+1) 0 _ (BI.start hn) (by omega) (Nat.zero_le _) (fun j o hj=>absurd hj (Nat.not_lt_zero j))
theorem QlQ [Decidable (JC n es)](hn:1≤n)(hr:∀e∈es,InE n e):(!((UB n es).any fun y=>decide (-1=y)))=decide (JC n es):=by
  obtain ⟨r,h,hc⟩:=QkX hn hr
  have hq:∀u,Rch es u→u∈[0]++r:=fun u hu=>by
    induction hu with
    | zero=>simp
    | step _ he ih=>exact hc _ ih _ he
  rw[Bool.eq_iff_iff,decide_eq_true_eq,Bool.not_eq_true',List.any_eq_false]
  constructor
  · intro g k hk
    have hl:k < (UB n es).length:=by have:=h.len; simp only at this; omega
    have h1:=List.getElem_mem hl
    have h2:=g _ h1
    have h3:=(h.rng _ h1).1
    have h4:=h.nn k _ (List.getElem?_eq_getElem hl) (by simp only[decide_eq_true_eq] at h2; omega)
    exact (h.q _ h4).2.1
  · intro g x hx
    obtain ⟨k,hk⟩:=List.mem_iff_getElem?.1 hx
    have hl:=(List.getElem?_eq_some_iff.1 hk).1
    have hl2:k < n:=by have:=h.len; simp only at this; omega
    obtain ⟨_,_,v,h5,h6⟩:=h.q _ (hq _ (g k hl2))
    have h5:(UB n es)[((k:Int)).toNat]? =some v:=h5
    rw[show ((k:Int)).toNat=k by omega,hk] at h5
    cases h5
    simp only[decide_eq_true_eq]; omega
end
theorem Qmv {xs:List (List Int)}{i:Nat}{ys:List Int}(h:xs[i]? =some ys):(Yk (.sl 3 .int) xs)[i*1+0]? =some (.dat (.sl 3 .int) ys):=Qia (e:= .sl 3 .int) (j:=0) h rfl
theorem Qc6 {xs:List (List Int)}{i:Nat}{x ys:List Int}(h:xs[i]? =some x):(Yk (.sl 3 .int) xs).set (i*1+0) (.dat (.sl 3 .int) ys)=Yk (.sl 3 .int) (xs.set i ys):=
  (Qie (e:= .sl 3 .int) (j:=0) (x':=ys) h rfl (by decide)).symm
theorem Hl (n:Int)(l:List (Int×Int))(start:Int)(hn:1≤n∧n≤300)(hl:∀e∈l,InE n.toNat e)(hll:l.length≤4000)(hst:start=0):FC Tryz.prog 159 [(false,[dI n]),(false,[.dat (.sl 258 (.pr .int .int)) l]),(false,[dI start])] [] 0 (XZ 3 .int (UB n.toNat l)):=by
 refine QQ Tryz.func159 rfl rfl Tryz.ntmps159 fun O_ hO w0_ N0_ X_ h0_ f0_=> ?_
 refine AC.fact (Qs (x:= .tmp 0) (Qa rfl)) fun hi1=>AC.fact (Qs (x:= .tmp 2) (Qa rfl)) fun hi2=> ?_
 iterate 3 refine w_ ?_
 refine dw [⟨some 15,lR 0,[(0,some (.arr 3 .int ([(-1)])))]⟩,io 16 (lI n),⟨some 17,lR 1,[(1,some (.arr 3 .int (List.replicate n.toNat (-1))))]⟩,io 18 (lI n),⟨some 19,lR 2,[(2,some (.arr 106 (.sl 3 .int) (List.replicate (n).toNat (Ty.zero (.sl 3 .int)))))]⟩,io 7 (lR 1),io 8 (lR 2)] [0,0,3,0,8,7,63] mixed rfl (by kernel_rfl) ⟨fun _ h_=>ac (Qk 0 (e:= .int) QO QD Xl rfl ⟨_,_,rfl,(Evl.ev (QE rfl)),rfl⟩ (List.all_eq_true.1 rfl) ⟨_,_,_,_,rfl,⟨rfl,rfl⟩,⟨rfl,rfl⟩,rfl⟩ (by decide) rfl rfl (h_.fr 0 rfl) (nlr rfl)) rfl,dxm rfl rfl,fun _ h_=>ac (Y4 1 (V3 ([(-1)]) n (-1) rfl (by omega)) Qiu ⟨_,_,rfl,(X2 (h_.v rfl) (h_.en 0 rfl)),⟨_,_,rfl,(Ev.b (h_.w rfl)),rfl⟩⟩ rfl (h_.fr 1 rfl) (nlr rfl)) rfl,dxm rfl rfl,fun _ h_=>ac (QcS 2 (e:=(.sl 3 .int)) (n:=n) (h_.v rfl) (h_.v rfl) YK Qke rfl (by omega) (by omega) (by omega) rfl (h_.fr 2 rfl) (nlr rfl)) rfl,dxt rfl rfl,dxt rfl rfl,⟨⟩⟩ ?_
 iterate 3 refine w_ ?_
 refine AL.fact (QB (x:= .tmp 20) (Qa rfl)) fun hl3=> ?_
 iterate 4 refine w_ ?_
 refine Qy (fun m_ s_=>∃(k:Nat),k≤l.length∧m_=l.length - k∧s_=⟨[(2,lI start),(6,lf (.val (.slice none 0 0))),(7,lR 1),(8,lR 3),(20,lf (.dat (.sl 258 (.pr .int .int)) l)),(21,lI (l.length:Int)),(22,lI (k:Int))],[(1,some (.arr 3 .int (List.replicate n.toNat (-1)))),(3,some (.arr 106 (.sl 3 .int) (ZG n.toNat (l.take k))))]⟩) ⟨0,Nat.zero_le _,rfl,rfl⟩ ?_ ?_
 · exact Wk.of [(1,1),(3,2)] rfl ⟨rfl,rfl,rfl,rfl,rfl,rfl,rfl,trivial⟩ ⟨rfl,(Qv (by simp only[List.take_zero]; rfl)),trivial⟩ rfl rfl
 rintro m_ s_ ⟨k,hk4,hm5,rfl⟩
 iterate 4 refine w_ ?_
 cases hb6:(decide ((k:Int) < (l.length:Int)))
 ·have hb6':=of_decide_eq_false hb6
  refine w_ ?_
  refine QA ?_
  refine (?_:AC _ _ _ _ _)
  refine Wz ?_
  have hke:ZG n.toNat (l.take k)=ZG n.toNat l:=by rw[Zh (by omega)]
  refine AC.wk (Qih 8 (q:=3) (e:=(.sl 3 .int)) (xs:=ZG n.toNat (l.take k)) rfl rfl) ?_
  rw[hke]
  have hrl:(List.replicate n.toNat (-1:Int)).length=n.toNat:=List.length_replicate ..
  have hnl:=WH (n:=n.toNat) (es:=l)
  iterate 3 refine w_ ?_
  refine lc (Qq (e:= .int) (Qa rfl) rfl (Qa rfl) QO QD rfl (by omega) (by first | omega | (simp only[List.length_set]; omega))) ?_
  obtain ⟨x7,hx8⟩:∃z,(List.replicate n.toNat (-1))[(start).toNat]? =some z:=⟨_,List.getElem?_eq_getElem (by omega)⟩
  refine lc (Q5 (e:= .int) (z':=0) (Qa rfl) rfl hx8 rfl (Evl.ev (QE rfl)) rfl QD rfl rfl) ?_
  iterate 3 refine w_ ?_
  refine lc (Qk 4 (e:= .int) QO QD Xl rfl ⟨_,_,rfl,(Qb rfl),rfl⟩ (List.all_eq_true.1 rfl) ⟨_,_,_,_,rfl,⟨rfl,rfl⟩,⟨rfl,rfl⟩,rfl⟩ (by decide) rfl rfl (Fresh.of rfl) (nlr rfl)) ?_
  iterate 7 refine w_ ?_
  refine Qy (fun m_ s_=>∃(k:Nat) (out:List Int) (q:List Int),k≤n.toNat∧m_=n.toNat - k∧(UB n.toNat l=bfK (ZG n.toNat l) (n.toNat+1 - k) k (out,q))∧(BI n.toNat l (out,q))∧s_=⟨[(6,lf (.val (.slice none 0 0))),(7,lR 5),(8,lf (.dat (.sl 106 (.sl 3 .int)) (ZG n.toNat l))),(11,lR 6),(12,lI (k:Int))],[(5,some (.arr 3 .int out)),(6,some (.arr 3 .int q))]⟩) ⟨0,(List.replicate n.toNat (-1)).set ((start).toNat) 0,[start],Nat.zero_le _,rfl,(by rw[hst]; rfl),(by rw[hst]; exact BI.start (by omega)),rfl⟩ ?_ ?_
  · exact Wk.of [(5,1),(6,4)] rfl ⟨rfl,rfl,rfl,rfl,rfl,trivial⟩ ⟨(Qv (by first | rfl | simp)),(Qv (by first | rfl | simp)),trivial⟩ rfl rfl
  rintro m_ s_ ⟨k,out,q,hk9,hm10,hA,hI,rfl⟩
  have hqn:=hI.q_le
  have hql:out.length=n.toNat:=hI.len
  iterate 7 refine w_ ?_
  cases hb11:(decide ((k:Int) < (q.length:Int)))
  ·have hb11':=of_decide_eq_false hb11
   refine w_ ?_
   refine QA ?_
   refine (?_:AC _ _ _ _ _)
   iterate 4 refine w_ ?_
   refine Qe ?_
   subst hO
   refine ZC (e:= .int) (xs:=out) (Qd rfl (Qc rfl)) rfl ?_
   rw[hA,QnX (by omega)]
  ·have hb11':=of_decide_eq_true hb11
   iterate 8 refine w_ ?_
   refine lc (Qq (e:= .int) (Qa rfl) rfl (Qa rfl) QO QD rfl (by omega) (by first | omega | (simp only[List.length_set]; omega))) ?_
   obtain ⟨o,hx13⟩:∃z,q[k]? =some z:=⟨_,List.getElem?_eq_getElem (by omega)⟩
   have hok0:=hI.at_ hx13
   refine lc (Q7 (e:= .int) (Qa rfl) rfl hx13 rfl QD rfl rfl)<|AL.fact (Qs (x:= .tmp 55) (Qa rfl)) fun hi14=> ?_
   obtain ⟨ts,hx16⟩:∃z,(ZG n.toNat l)[(o).toNat]? =some z:=⟨_,List.getElem?_eq_getElem (by omega)⟩
   have htm:=QaT hx16
   have hmem:∀t∈ts,(o,t)∈l:=fun t ht=>by have:=(Qeu hl hx16).1 ht; rwa [show ((o.toNat:Nat):Int)=o by omega] at this
   refine lc (Qm (Qa rfl) (Qa rfl) YK ZB rfl (by omega) hx16) ?_
   refine w_ ?_
   refine AL.fact (QB (x:= .tmp 57) (Qa rfl)) fun hl17=> ?_
   iterate 4 refine w_ ?_
   refine Qy (fun m_ s_=>∃(i:Nat) (out2:List Int) (q2:List Int),i≤ts.length∧m_=ts.length - i∧(UB n.toNat l=bfK (ZG n.toNat l) (n.toNat+1 - (k+1)) (k+1) (bfT o (ts.drop i) (out2,q2)))∧(BI n.toNat l (out2,q2))∧(q2[k]? =some o)∧s_=⟨[(6,lf (.val (.slice none 0 0))),(7,lR 7),(8,lf (.dat (.sl 106 (.sl 3 .int)) (ZG n.toNat l))),(11,lR 8),(12,lI (k:Int)),(45,lI (k:Int)),(47,lI (q.length:Int)),(48,lB true),(51,lf (.dat (.sl 106 (.sl 3 .int)) (ZG n.toNat l))),(53,lI (k:Int)),(55,lI o),(56,lf (.elt (.sl 3 .int) ts 0)),(57,lf (.dat (.sl 3 .int) ts)),(58,lI (ts.length:Int)),(59,lI (i:Int))],[(7,some (.arr 3 .int out2)),(8,some (.arr 3 .int q2))]⟩) ⟨0,out,q,Nat.zero_le _,rfl,(hA.trans (QoG hx13 hx16 (by omega))),hI,hx13,rfl⟩ ?_ ?_
   · exact Wk.of [(7,5),(8,6)] rfl ⟨rfl,rfl,rfl,rfl,rfl,rfl,rfl,rfl,rfl,rfl,rfl,rfl,rfl,rfl,rfl,trivial⟩ ⟨rfl,rfl,trivial⟩ rfl rfl
   rintro m_ s_ ⟨i,out2,q2,hk18,hm19,hA2,hI2,hQ2,rfl⟩
   have hqn2:=hI2.q_le
   have hql2:out2.length=n.toNat:=hI2.len
   have hok:=hI2.at_ hQ2
   have hkl:=(List.getElem?_eq_some_iff.1 hQ2).1
   iterate 4 refine w_ ?_
   cases hb20:(decide ((i:Int) < (ts.length:Int)))
   ·have hb20':=of_decide_eq_false hb20
    refine w_ ?_
    refine QA ?_
    refine (?_:AC _ _ _ _ _)
    iterate 4 refine w_ ?_
    refine Qj<|QS ⟨k+1,out2,q2,by omega,rfl,(by rw[hA2,QnG (by omega)]),hI2,rfl⟩ (by omega) ?_
    exact Wk.of [(5,7),(6,8)] rfl ⟨rfl,rfl,rfl,rfl,rfl,trivial⟩ ⟨rfl,rfl,trivial⟩ rfl rfl
   ·have hb20':=of_decide_eq_true hb20
    iterate 5 refine w_ ?_
    obtain ⟨x21,hx22⟩:∃z,ts[i]? =some z:=⟨_,List.getElem?_eq_getElem (by omega)⟩
    obtain ⟨_,ht0x21,ht1x21⟩:=hl _ (hmem _ (List.mem_of_getElem? hx22))
    have ht0x21:0≤x21:=ht0x21
    have ht1x21:x21 < (n.toNat:Int):=ht1x21
    refine lc (Qm (Qa rfl) (Qa rfl) QO QD rfl (by omega) hx22) ?_
    refine w_ ?_
    refine AL.fact (Qs (x:= .tmp 62) (Qa rfl)) fun hi23=> ?_
    iterate 5 refine w_ ?_
    refine lc (Qq (e:= .int) (Qa rfl) rfl (Qa rfl) QO QD rfl (by omega) (by first | omega | (simp only[List.length_set]; omega))) ?_
    obtain ⟨x24,hx25⟩:∃z,out2[(x21).toNat]? =some z:=⟨_,List.getElem?_eq_getElem (by omega)⟩
    have hrgx24: -1≤x24∧x24≤(q2.length:Int):=hI2.rng _ (List.mem_of_getElem? hx25)
    refine lc (Q7 (e:= .int) (Qa rfl) rfl hx25 rfl QD rfl rfl)<|AL.fact (Qs (x:= .tmp 66) (Qa rfl)) fun hi26=> ?_
    iterate 2 refine w_ ?_
    cases hb27:(decide (x24 < 0))
    ·have hb27':=of_decide_eq_false hb27
     refine w_ ?_
     refine AC.skip ?_
     refine (?_:AC _ _ _ _ _)
     iterate 3 refine w_ ?_
     refine Qj<|QS ⟨i+1,out2,q2,by omega,rfl,(by (rw[hA2,Qlp hx22 (by assumption) (by assumption)]; done)),(by exact hI2),(by exact hQ2),rfl⟩ (by omega) ?_
     exact Wk.of [(7,7),(8,8)] rfl ⟨rfl,rfl,rfl,rfl,rfl,rfl,rfl,rfl,rfl,rfl,rfl,rfl,rfl,rfl,rfl,trivial⟩ ⟨rfl,rfl,trivial⟩ rfl rfl
    ·have hb27':=of_decide_eq_true hb27
     iterate 7 refine w_ ?_
     refine lc (Qq (e:= .int) (Qa rfl) rfl (Qa rfl) QO QD rfl (by omega) (by first | omega | (simp only[List.length_set]; omega)))<|lc (Q7 (e:= .int) (Qa rfl) rfl hQ2 rfl QD rfl rfl)<|lc (Qq (e:= .int) (Qa rfl) rfl (Qa rfl) QO QD rfl (by omega) (by first | omega | (simp only[List.length_set]; omega))) ?_
     obtain ⟨x28,hx29⟩:∃z,out2[(o).toNat]? =some z:=⟨_,List.getElem?_eq_getElem (by omega)⟩
     have hrgx28: -1≤x28∧x28≤(q2.length:Int):=hI2.rng _ (List.mem_of_getElem? hx29)
     refine lc (Q7 (e:= .int) (Qa rfl) rfl hx29 rfl QD rfl rfl)<|AL.fact (Qs (x:= .tmp 76) (Qa rfl)) fun hi30=> ?_
     refine w_ ?_
     refine lc (Qq (e:= .int) (Qa rfl) rfl (Qa rfl) QO QD rfl (by omega) (by first | omega | (simp only[List.length_set]; omega)))<|lc (Q5 (e:= .int) (z':=x28+1) (Qa rfl) rfl hx25 rfl (Qb rfl) rfl QD rfl rfl) ?_
     iterate 4 refine w_ ?_
     refine lc (Qk 9 (e:= .int) QO QD Xl rfl ⟨_,_,rfl,(Qb rfl),rfl⟩ (List.all_eq_true.1 rfl) ⟨_,_,_,_,rfl,⟨rfl,rfl⟩,⟨rfl,rfl⟩,rfl⟩ (by decide) rfl rfl (Fresh.of rfl) (nlr rfl))<|lc (Q0 10 (Qa rfl) rfl (Qa rfl) rfl rfl QO WX (by first | omega | (simp only[List.length_append,List.length_map,List.length_take,List.length_cons,List.length_nil]; omega) | (simp only[List.length_append,List.length_drop,List.length_take,List.length_cons,List.length_nil]; omega)) rfl (Fresh.of rfl) (nlr rfl)) ?_
     refine w_ ?_
     refine Qj ?_
     refine (?_:AC _ _ _ _ _)
     iterate 3 refine w_ ?_
     refine Qj ?_
     refine QS ⟨i+1,(out2.set ((x21).toNat) (x28+1)),(q2++([x21])),by omega,rfl,(by (rw[hA2,Qn8 hx22 (by assumption) (by assumption) (by assumption)]; done)),(by exact hI2.step hl hok.2 (hmem _ (List.mem_of_getElem? hx22)) (by assumption) (by assumption) (by assumption)),(by (rw[List.getElem?_append_left hkl]; exact hQ2)),rfl⟩ (by omega) ?_
     exact Wk.of [(7,7),(8,10)] rfl ⟨rfl,rfl,rfl,rfl,rfl,rfl,rfl,rfl,rfl,rfl,rfl,rfl,rfl,rfl,rfl,trivial⟩ ⟨(Qv (by first | rfl | simp)),(Qv (by first | rfl | simp)),trivial⟩ rfl rfl
 ·have hb6':=of_decide_eq_true hb6
  iterate 5 refine w_ ?_
  obtain ⟨e,hx32⟩:∃z,l[k]? =some z:=⟨_,List.getElem?_eq_getElem (by omega)⟩
  refine lc (Qm (Qa rfl) (Qa rfl) QbA QbK rfl (by omega) hx32) ?_
  refine w_ ?_
  refine lc (Qw 11 (.pr .int .int) QbN rfl rfl (Fresh.of rfl) (nlr rfl))<|lc (Qf (Qa rfl) rfl (Qb rfl) rfl QbK rfl) ?_
  refine w_ ?_
  have hin:=hl _ (List.mem_of_getElem? hx32)
  have hn1:=WH (n:=n.toNat) (es:=l.take k)
  obtain ⟨⟨he1,he2⟩,he3,he4⟩:=hin
  obtain ⟨ys,hys⟩:∃z,(ZG n.toNat (l.take k))[e.1.toNat]? =some z:=⟨_,List.getElem?_eq_getElem (by omega)⟩
  have hyf:=QaT hys
  have hltk:(l.take k).length≤l.length:=by simp only[List.length_take]; omega
  have hcA:=Qmv hys
  have hpA:e.1.toNat*1+0 < (Yk (.sl 3 .int) (ZG n.toNat (l.take k))).length:=by rw[JS]; show e.1.toNat*1+0 < (ZG n.toNat (l.take k)).length*1; omega
  refine AC.wk (QjU (q:=3) rfl (by omega))<|AC.wk (Qeb 12 (q:=3) (p:=e.1.toNat*1+0) (E':=3) (e':= .int) (ys:=ys) rfl (hcA) (Fresh.of rfl) (Nat.le_of_ble_eq_true rfl)) ?_
  refine dv [io 26 (lR 3),io 27 (lP 11 0),io 28 (lI e.1),io 29 (lR 3),io 30 (lP 11 0),io 31 (lI e.1),io 32 (lf (.ept 3 1 ((e.1).toNat) 0)),io 33 (lR 12),io 34 (lP 11 1),io 35 (lI e.2),⟨some 36,lR 13,[(13,some (.arr 3 .int ([e.2])))]⟩,⟨some 37,lR 14,[(14,some (.arr 3 .int (ys++([e.2])))),(12,none),(13,none)]⟩,io 38 (lf (.ept 3 1 ((e.1).toNat) 0)),⟨none,lf (.val undef),[(3,some (.obx 106 1 ((ZG n.toNat (l.take k)).length) (Yk (.sl 3 .int) (ZG n.toNat (l.take k))) [((e.1).toNat*1+0, .ref 14),(e.1.toNat*1+0, .ref 12)]))]⟩] [0,0,2,0,0,16,56,120,0,256,768,2040,4095,8191] mixed rfl (by kernel_rfl) ⟨dxm rfl rfl,dxf Qel rfl rfl rfl,dxl QD rfl rfl rfl rfl rfl,dxm rfl rfl,dxf Qel rfl rfl rfl,dxl QD rfl rfl rfl rfl rfl,fun _ h_=>ac (VP (h_.v rfl) (h_.en 3 rfl) (h_.v rfl) YK ZB rfl (by omega) (by omega)) rfl,fun _ h_=>ac (QcH (h_.v rfl) (h_.n 3 rfl) (show (ovr _ _)[e.1.toNat*1+0]? =some (.ref 12) from by simp only[ovr,List.getElem?_set,List.length_set,hpA,hcA,eq_self,if_true,if_false,↓reduceIte]) (h_.n 12 rfl) ZB rfl) rfl,dxf Qkq rfl rfl rfl,dxl QD rfl rfl rfl rfl rfl,fun _ h_=>ac (Qk 13 (e:= .int) QO QD Xl rfl ⟨_,_,rfl,(h_.w rfl),rfl⟩ (List.all_eq_true.1 rfl) ⟨_,_,_,_,rfl,⟨rfl,rfl⟩,⟨rfl,rfl⟩,rfl⟩ (by decide) rfl rfl (h_.fr 13 rfl) (nlr rfl)) rfl,fun _ h_=>ac (Q0 14 (h_.v rfl) (h_.en 12 rfl) (h_.v rfl) (h_.en 13 rfl) rfl QO WX (by first | omega | (simp only[List.length_append,List.length_map,List.length_take,List.length_cons,List.length_nil]; omega) | (simp only[List.length_append,List.length_drop,List.length_take,List.length_cons,List.length_nil]; omega)) rfl (h_.fr 14 rfl) (nlr rfl)) rfl,fun _ h_=>ac (VP (h_.v rfl) (h_.en 3 rfl) (h_.v rfl) YK ZB rfl (by omega) (by omega)) rfl,fun _ h_=>ac (Qa9 (t:=12) (h_.v rfl) (h_.n 3 rfl) (show (ovr _ _)[e.1.toNat*1+0]? =some (.ref 12) from by simp only[ovr,List.getElem?_set,List.length_set,hpA,hcA,eq_self,if_true,if_false,↓reduceIte]) (h_.v rfl) (h_.n 14 rfl) ZB) rfl,⟨⟩⟩ ?_
  refine (?_:AC _ _ _ _ _)
  refine AC.wk (QgL (q:=3) (t:=14) (p:=e.1.toNat*1+0) rfl (by simp only[ovr,List.getElem?_set,List.length_set,hpA,hcA,eq_self,if_true,if_false,↓reduceIte]) rfl) ?_
  refine AC.wk (QfP (q:=3) (e:=(.sl 3 .int)) ((ZG n.toNat (l.take k)).set e.1.toNat (ys++[e.2])) rfl (by simp only[List.length_set]) (by simp only[ovr,List.set_set]; exact Qc6 hys)) ?_
  iterate 3 refine w_ ?_
  refine Qj<|QS ⟨k+1,by omega,rfl,rfl⟩ (by omega) ?_
  exact Wk.of [(1,1),(3,3)] rfl ⟨rfl,rfl,rfl,rfl,rfl,rfl,rfl,trivial⟩ ⟨rfl,(Qv (QcQ hx32 hys)),trivial⟩ rfl rfl
end Go.Proofs.YtnakmhfjafecpaaGreat
