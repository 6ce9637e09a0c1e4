/- Abstract states: operations on numbers, truth values, texts; variables in memory. No program is named here. -/
import Derived.Test.YtfkmmpfdncopdaaGreatNAc
set_option linter.unusedSimpArgs false
set_option linter.unusedVariables false
set_option linter.unusedSectionVars false
namespace Go.Proofs.YtfkmmpfdncopdaaGreat
open Go.RowKit
section
variable {A:Amb}{P:Program}{s:St}{x y:Operand}{d:Nat}{T T' ty:TypeId}{pos:String}{af:Array Edge}{g:Option (Nat×Bool)}
theorem Evl.i {m:Int}(h:Evl A s x (dI m)){gh:Gh}{a:Act}{w:World}(r:Rg A s gh a w):a.eval x= .int .i64 m:=(LVR.int (h gh a w r)).1
theorem Evl.b {m:Bool}(h:Evl A s x (dB m)){gh:Gh}{a:Act}{w:World}(r:Rg A s gh a w):a.eval x= .bool m:=LVR.bool (h gh a w r)
theorem Evl.st {m:ByteArray}(h:Evl A s x (dS m)){gh:Gh}{a:Act}{w:World}(r:Rg A s gh a w):a.eval x= .string m:=(LVR.str (h gh a w r)).1
theorem Evl.u {m:UInt8}(h:Evl A s x (.dat .u8 m)){gh:Gh}{a:Act}{w:World}(r:Rg A s gh a w):a.eval x= .int .u8 m.toNat:=LVR.u8 (h gh a w r)
theorem U8 {t:Nat}{pv:PV}(h:lk s.tm t=some pv)(hn:Nat.blt d A.n=true):Does A P ⟨some d, .move (.tmp t),ty,pos,af,g⟩ s (s.put d pv):=
  Qg rfl hn fun gh a w r=>by
    obtain ⟨v,h1,h2⟩:=r.tm t pv h
    have e:a.eval (.tmp t)=v:=by
      show a.tmps.getD t undef=v
      rw[bG,h1]; rfl
    exact ⟨v,by show Result.ok (Next.value (a.eval (.tmp t))) w=_; rw[e],h2⟩
theorem WK {t:Nat}{pv:PV}(h:lk s.tm t=some pv)(hn:Nat.blt d A.n=true):Does A P ⟨some d, .assign (.tmp t),ty,pos,af,g⟩ s (s.put d pv):=
  Qg rfl hn fun gh a w r=>by
    obtain ⟨v,h1,h2⟩:=r.tm t pv h
    have e:a.eval (.tmp t)=v:=by
      show a.tmps.getD t undef=v
      rw[bG,h1]; rfl
    exact ⟨v,by show Result.ok (Next.value (a.eval (.tmp t))) w=_; rw[e],h2⟩
theorem QbA {l:LV}(h:Evl A s x l)(hn:Nat.blt d A.n=true):Does A P ⟨some d, .move x,ty,pos,af,g⟩ s (s.put d (lf l)):=
  Qg rfl hn fun gh a w r=>⟨a.eval x,rfl,l,rfl,h gh a w r⟩
theorem Jo {l:LV}(h:Evl A s x l)(hn:Nat.blt d A.n=true):Does A P ⟨some d, .assign x,ty,pos,af,g⟩ s (s.put d (lf l)):=
  Qg rfl hn fun gh a w r=>⟨a.eval x,rfl,l,rfl,h gh a w r⟩
theorem JW {t i:Nat}{cs:List (Bool×List LV)}{b:Bool}{ls:List LV}(h:lk s.tm t=some (.tup cs))(hi:cs[i]? =some (b,ls))(hn:Nat.blt d A.n=true):
    Does A P ⟨some d, .extract (.tmp t) i,ty,pos,af,g⟩ s (s.put d (.cm b ls)):=
  Qg rfl hn fun gh a w r=>by
    obtain ⟨v,h1,vs,rfl,h2⟩:=r.tm t _ h
    have e:a.eval (.tmp t)= .tuple vs.toArray:=by
      show a.tmps.getD t undef=_
      rw[bG,h1]; rfl
    have hg:∀(cs:List (Bool×List LV)) (vs:List Value) (i:Nat),CmsR s.tab.al gh w cs vs→cs[i]? =some (b,ls)→∃v,vs[i]? =some v∧CmR s.tab.al gh w (b,ls) v:=by
      intro cs
      induction cs with
      | nil=>intro vs i _ h; simp at h
      | cons c cs ih=>
        rintro vs i ⟨v,vs',rfl,k1,k2⟩ hi
        cases i with
        | zero=>simp at hi; subst hi; exact ⟨v,rfl,k1⟩
        | succ i=>
          obtain ⟨v',k3,k4⟩:=ih vs' i k2 (by simpa using hi)
          exact ⟨v',by simpa using k3,k4⟩
    obtain ⟨v,k1,k2⟩:=hg cs vs i h2 hi
    exact ⟨v,by simp only[execOp,e,Instr.extract]; simp[k1,aw],k2⟩
theorem QfO {m n:Int}(hx:Evl A s x (dI m))(hy:Evl A s y (dI n))(hn:Nat.blt d A.n=true):Does A P ⟨some d, .binOp .lss T x y T',ty,pos,af,g⟩ s (s.put d (lf (dB (decide (m < n))))):=
  Qg rfl hn fun gh a w r=>⟨.bool (decide (m < n)),by
    have h1:=hx.i r
    have h2:=hy.i r
    simp only[execOp,h1,h2,eqGuard_at_int,binOp,Op.intCmp]
    simp,_,rfl,ZC⟩
theorem QfQ {m n:Int}(hx:Evl A s x (dI m))(hy:Evl A s y (dI n))(hn:Nat.blt d A.n=true):Does A P ⟨some d, .binOp .leq T x y T',ty,pos,af,g⟩ s (s.put d (lf (dB (decide (m≤n))))):=
  Qg rfl hn fun gh a w r=>⟨.bool (decide (m≤n)),by
    have h1:=hx.i r
    have h2:=hy.i r
    simp only[execOp,h1,h2,eqGuard_at_int,binOp,Op.intCmp]
    simp,_,rfl,ZC⟩
theorem QfG {m n:Int}(hx:Evl A s x (dI m))(hy:Evl A s y (dI n))(hn:Nat.blt d A.n=true):Does A P ⟨some d, .binOp .gtr T x y T',ty,pos,af,g⟩ s (s.put d (lf (dB (decide (n < m))))):=
  Qg rfl hn fun gh a w r=>⟨.bool (decide (n < m)),by
    have h1:=hx.i r
    have h2:=hy.i r
    simp only[execOp,h1,h2,eqGuard_at_int,binOp,Op.intCmp]
    simp,_,rfl,ZC⟩
theorem Qfc {m n:Int}(hx:Evl A s x (dI m))(hy:Evl A s y (dI n))(hn:Nat.blt d A.n=true):Does A P ⟨some d, .binOp .geq T x y T',ty,pos,af,g⟩ s (s.put d (lf (dB (decide (n≤m))))):=
  Qg rfl hn fun gh a w r=>⟨.bool (decide (n≤m)),by
    have h1:=hx.i r
    have h2:=hy.i r
    simp only[execOp,h1,h2,eqGuard_at_int,binOp,Op.intCmp]
    simp,_,rfl,ZC⟩
theorem QfA {m n:Int}(hx:Evl A s x (dI m))(hy:Evl A s y (dI n))(hn:Nat.blt d A.n=true):Does A P ⟨some d, .binOp .eql T x y T',ty,pos,af,g⟩ s (s.put d (lf (dB (decide (m=n))))):=
  Qg rfl hn fun gh a w r=>⟨.bool (decide (m=n)),by
    have h1:=hx.i r
    have h2:=hy.i r
    simp only[execOp,h1,h2,eqGuard_at_int,binOp,Op.intCmp]
    simp; rfl,_,rfl,ZC⟩
theorem QfF {m n:Int}(hx:Evl A s x (dI m))(hy:Evl A s y (dI n))(hn:Nat.blt d A.n=true):Does A P ⟨some d, .binOp .neq T x y T',ty,pos,af,g⟩ s (s.put d (lf (dB (!decide (m=n))))):=
  Qg rfl hn fun gh a w r=>⟨.bool (!decide (m=n)),by
    have h1:=hx.i r
    have h2:=hy.i r
    simp only[execOp,h1,h2,eqGuard_at_int,binOp,Op.intCmp]
    simp; rfl,_,rfl,ZC⟩
theorem Wv {m n:Int}(hx:Evl A s x (dI m))(hy:Evl A s y (dI n))(hn:Nat.blt d A.n=true)(hb: -9223372036854775808≤m+n∧m+n≤9223372036854775807):Does A P ⟨some d, .binOp .add T x y T',ty,pos,af,g⟩ s (s.put d (lf (dI (m+n)))):=
  Qg rfl hn fun gh a w r=>⟨.int .i64 (m+n),by
    have h1:=hx.i r
    have h2:=hy.i r
    have h3:IntKind.i64.wrap (m+n)=m+n:=IntWalk.i64_in _ (by omega)
    simp only[execOp,h1,h2,eqGuard_at_int,binOp,Op.intArith,h3]
    simp,_,rfl,Ye hb⟩
theorem WF {m n:Int}(hx:Evl A s x (dI m))(hy:Evl A s y (dI n))(hn:Nat.blt d A.n=true)(hb: -9223372036854775808≤m - n∧m - n≤9223372036854775807):Does A P ⟨some d, .binOp .sub T x y T',ty,pos,af,g⟩ s (s.put d (lf (dI (m - n)))):=
  Qg rfl hn fun gh a w r=>⟨.int .i64 (m - n),by
    have h1:=hx.i r
    have h2:=hy.i r
    have h3:IntKind.i64.wrap (m - n)=m - n:=IntWalk.i64_in _ (by omega)
    simp only[execOp,h1,h2,eqGuard_at_int,binOp,Op.intArith,h3]
    simp,_,rfl,Ye hb⟩
theorem QmO {m n:Int}(hx:Evl A s x (dI m))(hy:Evl A s y (dI n))(hn:Nat.blt d A.n=true)(hb: -9223372036854775808≤m*n∧m*n≤9223372036854775807):Does A P ⟨some d, .binOp .mul T x y T',ty,pos,af,g⟩ s (s.put d (lf (dI (m*n)))):=
  Qg rfl hn fun gh a w r=>⟨.int .i64 (m*n),by
    have h1:=hx.i r
    have h2:=hy.i r
    have h3:IntKind.i64.wrap (m*n)=m*n:=IntWalk.i64_in _ (by omega)
    simp only[execOp,h1,h2,eqGuard_at_int,binOp,Op.intArith,h3]
    simp,_,rfl,Ye hb⟩
theorem Qgk {m n:Int}(hx:Evl A s x (dI m))(hy:Evl A s y (dI n))(hn:Nat.blt d A.n=true)(h0:0≤m)(h1:0 < n):Does A P ⟨some d, .binOp .rem T x y T',ty,pos,af,g⟩ s (s.put d (lf (dI (m % n)))):=
  Qg rfl hn fun gh a w r=>by
    have k1:=hx.i r
    have k2:=hy.i r
    have k3:=(LVR.int (hx gh a w r)).2
    have k9:=(LVR.int (hy gh a w r)).2
    have k4:m.tmod n=m % n:=Int.tmod_eq_emod_of_nonneg h0
    have k5:0≤m % n:=Int.emod_nonneg _ (by omega)
    have k6:m % n < n:=Int.emod_lt_of_pos _ h1
    have k8:n≠0:=by omega
    refine ⟨.int .i64 (m % n), ?_,_,rfl,Ye (by omega)⟩
    simp only[execOp,k1,k2,eqGuard_at_int,binOp,Op.intDiv,k4]
    simp[k8]
theorem QgE {a b:UInt8}:((a.toNat:Int)==(b.toNat:Int))=decide (a=b):=by
  rw[bU]
  simp only[beq_iff_eq,aV]
  constructor
  · intro h; exact UInt8.toNat_inj.1 (by omega)
  · rintro rfl; rfl
theorem Zm {m n:UInt8}(hx:Evl A s x (.dat .u8 m))(hy:Evl A s y (.dat .u8 n))(hn:Nat.blt d A.n=true):Does A P ⟨some d, .binOp .eql T x y T',ty,pos,af,g⟩ s (s.put d (lf (dB (decide (m=n))))):=
  Qg rfl hn fun gh a w r=>⟨.bool (decide (m=n)),by
    have h1:=hx.u r
    have h2:=hy.u r
    simp only[execOp,h1,h2,eqGuard_at_int,binOp,Op.intCmp]
    simp[QgE,bne,UInt8.lt_iff_toNat_lt,UInt8.le_iff_toNat_le],_,rfl,ZC⟩
theorem QD {m n:UInt8}(hx:Evl A s x (.dat .u8 m))(hy:Evl A s y (.dat .u8 n))(hn:Nat.blt d A.n=true):Does A P ⟨some d, .binOp .neq T x y T',ty,pos,af,g⟩ s (s.put d (lf (dB (!decide (m=n))))):=
  Qg rfl hn fun gh a w r=>⟨.bool (!decide (m=n)),by
    have h1:=hx.u r
    have h2:=hy.u r
    simp only[execOp,h1,h2,eqGuard_at_int,binOp,Op.intCmp]
    simp[QgE,bne,UInt8.lt_iff_toNat_lt,UInt8.le_iff_toNat_le],_,rfl,ZC⟩
theorem U1 {a b:ByteArray}:(a.toList==b.toList)=decide (a=b):=by
  rw[bU]
  simp only[beq_iff_eq,aV]
  constructor
  · intro h
    rw[bc,bc] at h
    cases a; cases b
    simpa using h
  · rintro rfl; rfl
theorem UW {m n:ByteArray}(hx:Evl A s x (dS m))(hy:Evl A s y (dS n))(hn:Nat.blt d A.n=true):Does A P ⟨some d, .binOp .eql T x y T',ty,pos,af,g⟩ s (s.put d (lf (dB (decide (m=n))))):=
  Qg rfl hn fun gh a w r=>⟨.bool (decide (m=n)),by
    have h1:=hx.st r
    have h2:=hy.st r
    simp only[execOp,h1,h2,eqGuard_at_string,binOp,Op.stringOp]
    simp[U1],_,rfl,ZC⟩
theorem QdA {m n:ByteArray}(hx:Evl A s x (dS m))(hy:Evl A s y (dS n))(hn:Nat.blt d A.n=true):Does A P ⟨some d, .binOp .neq T x y T',ty,pos,af,g⟩ s (s.put d (lf (dB (!decide (m=n))))):=
  Qg rfl hn fun gh a w r=>⟨.bool (!decide (m=n)),by
    have h1:=hx.st r
    have h2:=hy.st r
    simp only[execOp,h1,h2,eqGuard_at_string,binOp,Op.stringOp]
    simp[U1],_,rfl,ZC⟩
theorem HD {m n:ByteArray}(hx:Evl A s x (dS m))(hy:Evl A s y (dS n))(hn:Nat.blt d A.n=true):Does A P ⟨some d, .binOp .lss T x y T',ty,pos,af,g⟩ s (s.put d (lf (dB (Op.bytesLess m.toList n.toList)))):=
  Qg rfl hn fun gh a w r=>⟨.bool (Op.bytesLess m.toList n.toList),by
    have h1:=hx.st r
    have h2:=hy.st r
    simp only[execOp,h1,h2,eqGuard_at_string,binOp,Op.stringOp]
    simp[U1],_,rfl,ZC⟩
theorem Q3 {m n:ByteArray}(hx:Evl A s x (dS m))(hy:Evl A s y (dS n))(hn:Nat.blt d A.n=true)(hb:m.size+n.size≤9223372036854775807):Does A P ⟨some d, .binOp .add T x y T',ty,pos,af,g⟩ s (s.put d (lf (dS (m++n)))):=
  Qg rfl hn fun gh a w r=>⟨.string (m++n),by
    have h1:=hx.st r
    have h2:=hy.st r
    simp only[execOp,h1,h2,eqGuard_at_string,binOp]
    simp[aw,run_string_add_sum w m n hb],_,rfl,Qef (by unfold maxLen; simpa using hb)⟩
theorem Yf {m n:Bool}(hx:Evl A s x (dB m))(hy:Evl A s y (dB n))(hn:Nat.blt d A.n=true)(hT:P.underlying T=some .bool):Does A P ⟨some d, .binOp .eql T x y T',ty,pos,af,g⟩ s (s.put d (lf (dB (m==n)))):=
  Qg rfl hn fun gh a w r=>⟨.bool (m==n),by
    have h1:=hx.b r
    have h2:=hy.b r
    simp only[execOp,h1,h2,eqGuard_at_bool]
    simp[run_eql_bool _ _ _ _ hT,aw],_,rfl,ZC⟩
theorem ZA {m n:Bool}(hx:Evl A s x (dB m))(hy:Evl A s y (dB n))(hn:Nat.blt d A.n=true)(hT:P.underlying T=some .bool):Does A P ⟨some d, .binOp .neq T x y T',ty,pos,af,g⟩ s (s.put d (lf (dB (!(m==n))))):=
  Qg rfl hn fun gh a w r=>⟨.bool (!(m==n)),by
    have h1:=hx.b r
    have h2:=hy.b r
    simp only[execOp,h1,h2,eqGuard_at_bool]
    simp[run_neq_bool _ _ _ _ hT,aw],_,rfl,ZC⟩
theorem QfU {m:Bool}(hx:Evl A s x (dB m))(hn:Nat.blt d A.n=true):Does A P ⟨some d, .unOp .not T x,ty,pos,af,g⟩ s (s.put d (lf (dB (!m)))):=
  Qg rfl hn fun gh a w r=>⟨.bool (!m),by
    have h1:=hx.b r
    simp only[execOp,h1,unary_not]
    simp,_,rfl,ZC⟩
theorem Qae {m:ByteArray}{i:Int}{c:UInt8}(hx:Evl A s x (dS m))(hy:Evl A s y (dI i))(hn:Nat.blt d A.n=true)(hT:P.underlying T=some .string)(h0:0≤i)(hc:m[i.toNat]? =some c):
    Does A P ⟨some d, .index T x y,ty,pos,af,g⟩ s (s.put d (lf (.dat .u8 c))):=
  Qg rfl hn fun gh a w r=>⟨.int .u8 c.toNat,by
    have h1:=hx.st r
    have h2:=hy.i r
    simp only[execOp,h1,h2,Instr.index,asIntOf]
    simp[run_underlying hT,h0,hc,aw],_,rfl,Qnz⟩
theorem QZ {m:ByteArray}(hx:Evl A s x (dS m))(hn:Nat.blt d A.n=true)(hT:P.underlying T=some .string):Does A P ⟨some d, .call ⟨.builtin .len, #[x], #[T]⟩,ty,pos,af,g⟩ s (s.put d (lf (dI m.size))):=
  Qg rfl hn fun gh a w r=>by
    have h1:=hx.st r
    have h2:=(LVR.str (hx gh a w r)).2
    refine ⟨.int .i64 m.size, ?_,_,rfl,Ye (by unfold maxLen at h2; omega)⟩
    simp only[execOp,resolve,invoke,builtin]
    simp[aw,h1,run_len_string w T ty m hT,goInt]
theorem Qgp {E:TypeId}{e:Ty}{l:List e.Den}(hx:Evl A s x (.dat (.sl E e) l))(hn:Nat.blt d A.n=true)(hT:P.underlying T=some (.slice E)):Does A P ⟨some d, .call ⟨.builtin .len, #[x], #[T]⟩,ty,pos,af,g⟩ s (s.put d (lf (dI l.length))):=
  Qg rfl hn fun gh a w r=>by
    obtain ⟨B,c,h1,h2,h3⟩:=(Rd.rep (hx gh a w r)).slv
    have hE:P.elem T=E:=by simp[Program.elem,hT]
    refine ⟨.int .i64 l.length, ?_,_,rfl,Ye (by unfold maxLen at h3; omega)⟩
    simp only[execOp,resolve,invoke,builtin]
    simp[aw,h1,run_len_slice w T ty B l.length c (by rw[hE]; exact hT),goInt]
theorem QdB {q:Nat}{E E':TypeId}{e:Ty}{l:List e.Den}(hx:Evl A s x (.ref q))(he:s.tab.ent q=some (.arr E e l))(hn:Nat.blt d A.n=true)(hT:P.underlying T=some (.slice E')):
    Does A P ⟨some d, .call ⟨.builtin .len, #[x], #[T]⟩,ty,pos,af,g⟩ s (s.put d (lf (dI l.length))):=
  Qg rfl hn fun gh a w r=>by
    have h0:a.eval x=gh.h q:=hx gh a w r ⟨_,he⟩
    have hO:Own (.sl E e) w (gh.f q) [gh.h q] l:=r.cx.en q _ he
    obtain ⟨B,c,h1,h2,h3⟩:=hO.rep.slv
    have hE:P.elem T=E':=by simp[Program.elem,hT]
    refine ⟨.int .i64 l.length, ?_,_,rfl,Ye (by unfold maxLen at h3; omega)⟩
    simp only[execOp,resolve,invoke,builtin]
    simp[aw,h0,h1,run_len_slice w T ty B l.length c (by rw[hE]; exact hT),goInt]
end
end Go.Proofs.YtfkmmpfdncopdaaGreat
namespace Go.Proofs.YtfkmmpfdncopdaaGreat
open Go.RowKit
def tsh (P:Program)(T:TypeId):Option (Bool×Nat):=match P.underlying T,P.info? T with
  | some (.struct _),some i=>some (true,i.size)
  | some (.array _ _),some i=>some (true,i.size)
  | some _,some i=>some (false,i.size)
  | _,_=>none
def fld (P:Program)(T:TypeId)(f:Nat):Option Nat:=match P.underlying T with
  | some (.struct fs)=>match fs[f]? with
    | some fd=>match P.info? fd.type with
      | some i=>match i.size with
        | 0=>none
        | _+1=>some fd.offset
      | none=>none
    | none=>none
  | _=>none
def zer (P:Program)(T:TypeId):Option Value:=match P.info? T with
  | some i=>i.zero
  | none=>none
section
variable {P:Program}{T:TypeId}{w:World}
theorem Yu {b:Bool}{n:Nat}(h:tsh P T=some (b,n)):(sizeOf T).run P w= .ok n w:=by
  unfold tsh at h
  cases hi:P.info? T with
  | none=>rw[hi] at h; cases hu:P.underlying T with
    | none=>rw[hu] at h; cases h
    | some d=>rw[hu] at h; cases d <;> cases h
  | some i=>
    rw[hi] at h
    have hn:i.size=n:=by
      cases hu:P.underlying T with
      | none=>rw[hu] at h; cases h
      | some d=>rw[hu] at h; cases d <;> (simp at h; exact h.2)
    simp[sizeOf,typeInfo,hi,hn,aw]
theorem Kf {b:Bool}{n:Nat}(h:tsh P T=some (b,n)):(isAgg T).run P w= .ok b w:=by
  unfold tsh at h
  cases hu:P.underlying T with
  | none=>rw[hu] at h; cases h
  | some d=>
    rw[hu] at h
    cases hi:P.info? T with
    | none=>rw[hi] at h; cases d <;> cases h
    | some i=>rw[hi] at h; cases d <;> (simp at h; simp[isAgg,run_underlying hu,aw,h.1])
theorem JS (b o:Nat):∀(vs:List Value) (i:Nat) (acc:Array Value),(∀j u,vs[j]? =some u→w.cell? ⟨b,o+(i+j),none⟩=some u)→
    (loadCellsFrom ⟨b,o,none⟩ i vs.length acc).run P w= .ok (acc++vs.toArray) w:=by
  intro vs
  induction vs with
  | nil=>intro i acc _; simp[loadCellsFrom]
  | cons v vs ih=>
    intro i acc h
    have h0:=h 0 v rfl
    rw[dk] at h0
    have h1:=ih (i+1) (acc.push v) fun j u hj=>by
      have:=h (j+1) u hj
      rwa [show i+(j+1)=i+1+j by omega] at this
    simp only[au,loadCellsFrom]
    simp only[aw,Addr.add_lit,run_load,h0,aH,h1]
    simp
theorem Y9 {n:Nat}(h:tsh P T=some (true,n))(b o:Nat)(vs:List Value)(hl:vs.length=n)(hc:∀j u,vs[j]? =some u→w.cell? ⟨b,o+j,none⟩=some u):
    (loadVar T ⟨b,o,none⟩).run P w= .ok (.agg vs.toArray) w:=by
  subst hl
  have:=JS (P:=P) (w:=w) b o vs 0 #[] (by simpa using hc)
  simp only[loadVar,loadCells,aw,Kf h,aH,if_true,Yu h,this]
  simp
theorem Z5 {n:Nat}(h:tsh P T=some (false,n))(p:Addr)(v:Value)(hc:w.cell? p=some v):(loadVar T p).run P w= .ok v w:=by
  simp only[loadVar,aw,Kf h,aH]
  simp[hc]
theorem UG {f o:Nat}(h:fld P T f=some o)(b k:Nat):(Instr.fieldAt T (.pointer (some ⟨b,k,none⟩)) f).run P w= .ok (.pointer (some ⟨b,k+o,none⟩)) w:=by
  unfold fld at h
  cases hu:P.underlying T with
  | none=>rw[hu] at h; cases h
  | some d=>
    rw[hu] at h
    cases d with
    | struct fs=>
      simp only at h
      cases hf:fs[f]? with
      | none=>rw[hf] at h; cases h
      | some fd=>
        rw[hf] at h
        simp only at h
        cases hi:P.info? fd.type with
        | none=>rw[hi] at h; cases h
        | some i=>
          rw[hi] at h
          simp only at h
          cases hs:i.size with
          | zero=>rw[hs] at h; cases h
          | succ m=>
            rw[hs] at h
            simp at h
            subst h
            simp[Instr.fieldAt,run_underlying hu,hf,Instr.sureAddr,fieldPlace,sizeOf,typeInfo,hi,hs,aw,Addr.add_lit]
    | _=>cases h
theorem Ws {b:Nat}{E:TypeId}:∀(vs:List Value) (o i:Nat) (w:World) (cur:Array Value),w.heap[b]? =some (.cells cur E (0,0))→o+i+vs.length≤cur.size→(∀v∈vs,v.oneCell'=true)→
    (storeCells ⟨b,o,none⟩ vs i).run P w= .ok () (Xs w b (o+i) vs):=by
  intro vs
  induction vs with
  | nil=>intro o i w cur _ _ _; simp[storeCells,Xs]
  | cons v vs ih=>
    intro o i w cur hb hl h1
    simp only[au] at hl
    have hc:w.cell? ⟨b,o+i,none⟩=some (cur[o+i]'(by omega)):=by simp[World.cell?,hb,show o+i < cur.size by omega]
    have hf:w.frozen? ⟨b,o+i,none⟩=false:=by simp[World.frozen?,hb]
    have h2:=ih o (i+1) (w.setCell ⟨b,o+i,none⟩ v) (cur.setIfInBounds (o+i) v) (by simp[World.setCell,Array.getElem?_modify,hb]) (by simp; omega) fun v hv=>h1 v (ax _ hv)
    simp only[storeCells,aw,Addr.add_lit,run_store P w _ v .plain (h1 v (az ..)),hc,hf,aH,if_false,bQ]
    simpa [Xs,bK] using h2
theorem V5 {b o:Nat}{E:TypeId}{g:Bool}{n:Nat}(h:tsh P T=some (g,n))(v:Value)(vs:List Value)(hv:v.cells=vs.toArray)(hl:vs.length=n){cur:Array Value}(hb:w.heap[b]? =some (.cells cur E (0,0)))
    (hs:o+n≤cur.size) (h1:∀v∈vs,v.oneCell'=true):(storeVar T ⟨b,o,none⟩ v).run P w= .ok () (Xs w b o vs):=by
  have h2:=Ws (P:=P) vs o 0 w cur hb (by omega) h1
  have h3:v.cells.toList=vs:=by rw[hv]
  have h4:v.cells.size=n:=by rw[hv]; simpa using hl
  simp only[storeVar,aw,Yu h,aH,h3,h4]
  simpa using h2
end
theorem LVR.oneCell {al:Nat→Prop}{gh:Gh}{w:World}{l:LV}{v:Value}(h:LVR al gh w l v)(hl:∀u,l= .val u→u.oneCell'=true)(ha:∀q∈l.tags,al q)
    (hc:∀q,al q→(gh.h q).oneCell'=true):v.oneCell'=true:=by
  cases l with
  | val u=>rw[show v=u from h]; exact hl u rfl
  | dat t x=>exact Rep.one (Rd.rep h) v (by simp)
  | ref q=>rw[show v=_ from h (ha q (by simp[LV.tags]))]; exact hc q (ha q (by simp[LV.tags]))
  | ptr q off=>obtain ⟨g,_,h2⟩:=h (ha q (by simp[LV.tags])); rw[h2]; rfl
  | ept q wd i j=>obtain ⟨g,n,c,_,h2⟩:=h (ha q (by simp[LV.tags])); rw[h2]; rfl
  | sub q wd lo n=>obtain ⟨B,m,c,_,h2⟩:=h (ha q (by simp[LV.tags])); rw[h2]; rfl
  | elt t x off=>obtain ⟨b,o,ds,wN,h1,_⟩:=h; rw[h1]; rfl
  | clo f qs=>rw[show v=_ from h fun q hq=>ha q (by simpa [LV.tags] using hq)]; rfl
theorem EntR.oneCell {al:Nat→Prop}{gh:Gh}{w:World}{q:Nat}{e:Ent}(h:EntR al gh w q e):(gh.h q).oneCell'=true:=by
  cases e with
  | box E cs=>obtain ⟨g,cur,h1,_⟩:=h; rw[h1]; rfl
  | arr E e xs=>exact Rep.one (Own.rep (t:= .sl E e) h) _ (by simp)
  | obx E wd n ls0 ov=>obtain ⟨_,g,cap,cur,fps,h1,_⟩:=h; rw[h1]; rfl
  | mp kb k vb v m=>obtain ⟨g,es,clock,h1,_⟩:=h; rw[h1]; rfl
  | bys E l=>obtain ⟨g,cap,cur,h1,_⟩:=h; rw[h1]; rfl
  | pl o e vs f=>cases o <;> (rw[h.1]; rfl)
  | fz E e xs=>obtain ⟨vs,h1,_⟩:=h; exact Rep.one (Own.rep (t:= .sl E .vl) h1) _ (by simp)
  | res R=>exact R.one h
def Vb (T:Tab):LV→Bool
  | .val u=>u.oneCell'
  | .dat _ _=>true
  | .elt _ _ _=>true
  | .ref q=>(T.ent q).isSome
  | .ptr q _=>(T.ent q).isSome
  | .ept q _ _ _=>(T.ent q).isSome
  | .sub q _ _ _=>(T.ent q).isSome
  | .clo _ qs=>qs.all fun q=>(T.ent q).isSome
def Q6 (T:Tab):List LV→Bool
  | []=>true
  | l :: ls=>Vb T l&&Q6 T ls
theorem Wc {T:Tab}{l:LV}(h:Vb T l=true):(∀q∈l.tags,T.al q)∧∀u,l= .val u→u.oneCell'=true:=by
  have k:∀q,(T.ent q).isSome=true→T.al q:=fun q hq=>b7.1 hq
  cases l with
  | val u=>exact ⟨by simp[LV.tags],fun u' e=>by cases e; exact h⟩
  | dat t x=>exact ⟨by simp[LV.tags],fun u' e=>by cases e⟩
  | elt t x o=>exact ⟨by simp[LV.tags],fun u' e=>by cases e⟩
  | ref q=>exact ⟨by intro r hr; simp[LV.tags] at hr; subst hr; exact k _ h,fun u' e=>by cases e⟩
  | ptr q o=>exact ⟨by intro r hr; simp[LV.tags] at hr; subst hr; exact k _ h,fun u' e=>by cases e⟩
  | ept q a b c=>exact ⟨by intro r hr; simp[LV.tags] at hr; subst hr; exact k _ h,fun u' e=>by cases e⟩
  | sub q a b c=>exact ⟨by intro r hr; simp[LV.tags] at hr; subst hr; exact k _ h,fun u' e=>by cases e⟩
  | clo f qs=>exact ⟨by intro r hr; exact k _ (aB.1 h r (by simpa [LV.tags] using hr)),fun u' e=>by cases e⟩
theorem LVs.oneCells {T:Tab}{gh:Gh}{w:World}(cx:Cx T gh w){ls:List LV}{vs:List Value}(h:LVs T.al gh w ls vs)(hk:Q6 T ls=true):∀v∈vs,v.oneCell'=true:=by
  induction ls generalizing vs with
  | nil=>rw[show vs=[] from h]; simp
  | cons l ls ih=>
    obtain ⟨v,vs',rfl,h1,h2⟩:=h
    simp only[Q6,aL] at hk
    obtain ⟨h3,h4⟩:=Wc hk.1
    intro u hu
    rcases aE.1 hu with rfl | hu
    · exact h1.oneCell h4 h3 fun q hq=>by obtain ⟨e,he⟩:=hq; exact (cx.en q e he).oneCell
    · exact ih h2 hk.2 u hu
theorem CmR.cells {al:Nat→Prop}{gh:Gh}{w:World}{b:Bool}{ls:List LV}{v:Value}(h:CmR al gh w (b,ls) v)(h1:b=false→v.oneCell'=true):∃vs,v.cells=vs.toArray∧LVs al gh w ls vs:=by
  cases b with
  | true=>obtain ⟨vs,rfl,h2⟩:=h; exact ⟨vs,rfl,h2⟩
  | false=>
    obtain ⟨l,rfl,h2⟩:=h
    have:=h1 rfl
    exact ⟨[v],by cases v <;> first | rfl | (simp[Value.oneCell'] at this),v,[],rfl,h2,rfl⟩
section
variable {A:Amb}{P:Program}{s:St}{x y:Operand}{d:Nat}{T T' ty:TypeId}{pos:String}{af:Array Edge}{g:Option (Nat×Bool)}
theorem Rg.grow {gh:Gh}{a:Act}{w:World}(r:Rg A s gh a w)(t:Nat)(hfr:Fresh s t)(hk0:A.k0≤t)(o:Obj)(hv:Value)(fp:List Nat)(e:Ent)
    (hfp:∀g∈fp,g=w.heap.size) (hnd:fp.Nodup) (htag:t∉e.tags)
    (he:EntR s.tab.al ⟨fun q=>if q=t then hv else gh.h q,fun q=>if q=t then fp else gh.f q,gh.N⟩ (w.alloc o) t e):
    Rg A ⟨s.tm,(t,some e) :: s.tab⟩ ⟨fun q=>if q=t then hv else gh.h q,fun q=>if q=t then fp else gh.f q,gh.N⟩ a (w.alloc o):=by
  have hal:∀q,q≠t→(Tab.al ((t,some e) :: s.tab) q↔s.tab.al q):=fun q hq=>by
    unfold Tab.al; rw[Qh,if_neg hq]
  have hbl:∀g,g < w.heap.size→(w.alloc o).heap[g]? =w.heap[g]? :=fun g hg=>Below.heap_alloc w _ g hg
  have hsz:(w.alloc o).heap.size=w.heap.size+1:=by simp
  have halS:∀q,Tab.al ((t,some e) :: s.tab) q→q=t∨(q≠t∧s.tab.al q):=fun q hq=>by
    by_cases h:q=t
    · exact .inl h
    · exact .inr ⟨h,(hal q h).1 hq⟩
  refine r.step ?_ ?_ ?_ ⟨rfl,rfl,rfl,by omega⟩ (fun g hg _=>hbl g hg) (fun g hg=> .inl hg) ?_
  · refine ⟨fun q e' h => ?_, fun q q' h1 h2 hne g hg hg' => ?_, fun q h => ?_, fun q h g hg => ?_, fun g hg => by rw [hsz]; have := r.cx.nl g hg; omega⟩
    · rw [Qh] at h
      by_cases hq:q=t
      · rw [if_pos hq] at h
        subst hq
        cases h
        exact he.mono (fun r' hr' h'=>⟨(hal r' (fun h=>htag (h▸hr'))).1 h',rfl⟩) (fun g hg=>⟨hg,rfl⟩) rfl rfl fun g hg=>rfl
      · rw [if_neg hq] at h
        exact (r.cx.en q e' h).mono (fun r' hr' h'=>by
          have hne:r'≠t:=fun h2=>hfr.en q e' h (h2▸hr')
          exact ⟨(hal r' hne).1 h',by simp[hne]⟩) (fun g hg=>⟨hg,hbl g (r.cx.nl g hg)⟩) (by simp[hq]) (by simp[hq]) fun g hg=>hbl g (r.cx.lt ⟨e',h⟩ g hg)
    · rcases halS q h1 with h1 | ⟨h1, k1⟩ <;> rcases halS q' h2 with h2 | ⟨h2, k2⟩
      · exact hne (h1.trans h2.symm)
      · subst h1
        simp only[if_true] at hg
        simp only[if_neg h2] at hg'
        have:=r.cx.lt k2 g hg'
        have:=hfp g hg
        omega
      · subst h2
        simp only[if_true] at hg'
        simp only[if_neg h1] at hg
        have:=r.cx.lt k1 g hg
        have:=hfp g hg'
        omega
      · simp only [if_neg h1] at hg
        simp only[if_neg h2] at hg'
        exact r.cx.dj q q' k1 k2 hne g hg hg'
    · rcases halS q h with h | ⟨h, k⟩
      · subst h; simpa using hnd
      · simp only[if_neg h]; exact r.cx.nd q k
    · rcases halS q h with h | ⟨h, k⟩
      · subst h
        simp only[if_true] at hg
        intro hN
        have:=r.cx.nl g hN
        have:=hfp g hg
        omega
      · simp only [if_neg h] at hg
        exact r.cx.no q k g hg
  · intro q h
    rcases halS q h with h | ⟨h,k⟩
    · exact .inr ⟨h▸hfr,h▸hk0⟩
    · exact .inl ⟨k,by simp[h],fun _=>by simp[h]⟩
  · exact fun g hg=>⟨hg,hbl g (r.cx.nl g hg)⟩
  · intro q h g hg
    rcases halS q h with h | ⟨h,k⟩
    · subst h
      simp only[if_true] at hg
      exact .inl (by rw[hfp g hg]; exact aO _)
    · simp only [if_neg h] at hg
      exact .inr ⟨q,k,hg⟩
@[reducible] def St.new (s:St) (d:Nat) (t:Nat) (l:LV) (e:Ent):St:=⟨(d,lf l) :: s.tm,(t,some e) :: s.tab⟩
theorem Qgu {T:Tab}{ls:List LV}(hk:Q6 T ls=true):∀q∈Qw ls,T.al q:=by
  induction ls with
  | nil=>simp[Qw]
  | cons l ls ih=>
    simp only[Q6,aL] at hk
    intro q hq
    rcases aK.1 hq with hq | hq
    · exact (Wc hk.1).1 q hq
    · exact ih hk.2 q hq
theorem Rg.box {gh:Gh}{a:Act}{w:World}(r:Rg A s gh a w)(t:Nat)(hfr:Fresh s t)(hk0:A.k0≤t)(E:TypeId){ls:List LV}{vs:List Value}(h:LVs s.tab.al gh w ls vs)(hk:∀q∈Qw ls,s.tab.al q)(hd:d < A.n):
    R A (s.new d t (.ptr t 0) (.box E ls)) (a.put (some d) (.pointer (some ⟨w.heap.size,0,none⟩))) (w.alloc (.cells vs.toArray E)):=by
  refine ⟨_,(r.grow t hfr hk0 (.cells vs.toArray E) (.pointer (some ⟨w.heap.size,0,none⟩)) [w.heap.size] (.box E ls) (by simp) (by simp) (fun h=>hfr.al (hk t h)) ?_).put hd (pv:=lf (.ptr t 0)) ⟨_,rfl,fun _=>⟨w.heap.size,by simp,rfl⟩⟩⟩
  refine ⟨w.heap.size,vs.toArray,by simp,by simp,heap_alloc_new w _, ?_⟩
  exact h.mono (fun q hq k=>⟨k,by
    have:q≠t:=fun h=>hfr.al (h▸hk q hq)
    simp[this]⟩) fun g hg=>⟨hg,Below.heap_alloc w _ g (r.cx.nl g hg)⟩
theorem QlJ (t:Nat){b:Bool}{ls:List LV}(hx:Ev A s x (b,ls))(hk:Q6 s.tab ls=true)(hn:Nat.blt d A.n=true)(hfr:Fresh s t)(hk0:A.k0≤t):Does A P ⟨some d, .box T x,ty,pos,af,g⟩ s (s.new d t (.ptr t 0) (.box T ls)):=
  fun a w K Q r hK=>by
    obtain ⟨gh,r⟩:=r
    have hv:=hx gh a w r
    obtain ⟨vs,h1,h2⟩:=CmR.cells hv fun hb=>by
      subst hb
      obtain ⟨l,rfl,h1⟩:=hv
      simp only[Q6,cU] at hk
      obtain ⟨h3,h4⟩:=Wc hk
      exact h1.oneCell h4 h3 fun q ⟨e,he⟩=>(r.cx.en q e he).oneCell
    have e:(execOp a.eval ⟨some d, .box T x,ty,pos,af,g⟩).run P w= .ok (.value (.pointer (some ⟨w.heap.size,0,none⟩))) (w.alloc (.cells vs.toArray T)):=by
      simp only[execOp,Instr.box,newVar,newRow,h1]
      simp[aw]
    unfold Oper.wp
    rw[e,Oper.upon_value]
    exact hK _ _ (r.box t hfr hk0 T h2 (Qgu hk) (aG hn))
end
def Ty.zero:(t:Ty)→t.Den
  | .int=>(0:Int)
  | .bool=>false
  | .str=>ByteArray.empty
  | .u8=>(0:UInt8)
  | .vl=>(none:Hdr)
  | .sl _ _=>[]
  | .pr a b=>(a.zero,b.zero)
def Ty.zeros:Ty→List Value
  | .int=>[.int .i64 0]
  | .bool=>[.bool false]
  | .str=>[.string ByteArray.empty]
  | .u8=>[.int .u8 0]
  | .vl=>[.slice none 0 0]
  | .sl _ _=>[.slice none 0 0]
  | .pr a b=>a.zeros++b.zeros
def Ty.zlv:Ty→List LV
  | .int=>[.dat .int (0:Int)]
  | .bool=>[.dat .bool false]
  | .str=>[.dat .str ByteArray.empty]
  | .u8=>[.dat .u8 (0:UInt8)]
  | .vl=>[.dat .vl (none:Hdr)]
  | .sl _ _=>[.val (.slice none 0 0)]
  | .pr a b=>a.zlv++b.zlv
theorem ZB:∀(t:Ty) (w:World),Own t w [] t.zeros t.zero
  | .int,_=>⟨rfl,rfl,by decide⟩
  | .bool,_=>⟨rfl,rfl⟩
  | .str,_=>⟨rfl,rfl,aR _⟩
  | .u8,_=>⟨rfl,rfl⟩
  | .vl,_=>⟨rfl,rfl⟩
  | .sl _ _,_=> .inl ⟨rfl,rfl,rfl⟩
  | .pr a b,w=>⟨[],[],a.zeros,b.zeros,rfl,rfl,ZB a w,ZB b w⟩
theorem VI (al:Nat→Prop)(gh:Gh)(w:World):∀t:Ty,LVs al gh w t.zlv t.zeros
  | .int=>⟨_,[],rfl,Rd.leaves (t:= .int) (al:=al) (Own.rd (ZB .int w) (by simp)) |>.one rfl,rfl⟩
  | .bool=>⟨_,[],rfl,Rd.leaves (t:= .bool) (al:=al) (Own.rd (ZB .bool w) (by simp)) |>.one rfl,rfl⟩
  | .str=>⟨_,[],rfl,Rd.leaves (t:= .str) (al:=al) (Own.rd (ZB .str w) (by simp)) |>.one rfl,rfl⟩
  | .u8=>⟨_,[],rfl,Rd.leaves (t:= .u8) (al:=al) (Own.rd (ZB .u8 w) (by simp)) |>.one rfl,rfl⟩
  | .vl=>⟨_,[],rfl,Rd.leaves (t:= .vl) (al:=al) (Own.rd (ZB .vl w) (by simp)) |>.one rfl,rfl⟩
  | .sl _ _=>⟨_,[],rfl,rfl,rfl⟩
  | .pr a b=>LVs.app (VI al gh w a) (VI al gh w b)
theorem UC:∀t:Ty,Qw t.zlv=[]
  | .int=>rfl
  | .bool=>rfl
  | .str=>rfl
  | .u8=>rfl
  | .vl=>rfl
  | .sl _ _=>rfl
  | .pr a b=>by
    have:∀l1 l2:List LV,Qw (l1++l2)=Qw l1++Qw l2:=by
      intro l1 l2
      induction l1 with
      | nil=>rfl
      | cons l ls ih=>simp[Qw,ih]
    simp[Ty.zlv,this,UC a,UC b]
section
variable {A:Amb}{P:Program}{s:St}{x y:Operand}{d:Nat}{T T' ty:TypeId}{pos:String}{af:Array Edge}{g:Option (Nat×Bool)}
theorem XT {z:Value}{w:World}(h:zer P T=some z):(zeroValue T).run P w= .ok z w:=by
  unfold zer at h
  cases hi:P.info? T with
  | none=>rw[hi] at h; cases h
  | some i=>
    rw[hi] at h
    have hz:i.zero=some z:=h
    simp[zeroValue,typeInfo,hi,hz,aw]
theorem KY (k:Nat)(t:Ty){z:Value}(hz:zer P T=some z)(hzt:z.cells.toList=t.zeros)(hn:Nat.blt d A.n=true)(hfr:Fresh s k)(hk0:A.k0≤k):Does A P ⟨some d, .alloc T,ty,pos,af,g⟩ s (s.new d k (.ptr k 0) (.box T t.zlv)):=
  fun a w K Q r hK=>by
    obtain ⟨gh,r⟩:=r
    have hc:z.cells=t.zeros.toArray:=by rw[← hzt]
    have e:(execOp a.eval ⟨some d, .alloc T,ty,pos,af,g⟩).run P w= .ok (.value (.pointer (some ⟨w.heap.size,0,none⟩))) (w.alloc (.cells t.zeros.toArray T)):=by
      simp only[execOp,Instr.alloc,newVar,newRow,aw,XT hz,aH,hc]
      simp
    unfold Oper.wp
    rw[e,Oper.upon_value]
    exact hK _ _ (r.box k hfr hk0 T (VI _ _ _ t) (by rw[UC]; simp) (aG hn))
theorem Ux {q off o f:Nat}(hx:Evl A s x (.ptr q off))(hf:fld P T f=some o)(ha:(s.tab.ent q).isSome=true)(hn:Nat.blt d A.n=true):Does A P ⟨some d, .fieldAddr T x f,ty,pos,af,g⟩ s (s.put d (lf (.ptr q (off+o)))):=
  Qg rfl hn fun gh a w r=>by
    obtain ⟨e,he⟩:=b7.1 ha
    obtain ⟨g,h1,h2⟩:=hx gh a w r ⟨e,he⟩
    refine ⟨.pointer (some ⟨g,off+o,none⟩), ?_,_,rfl,fun _=>⟨g,h1,rfl⟩⟩
    simp only[execOp,h2,aw,UG hf]
    simp
theorem H3 {t:Ty}{z:t.Den}{off o f:Nat}(hx:Evl A s x (.elt t z off))(hf:fld P T f=some o)(hn:Nat.blt d A.n=true):Does A P ⟨some d, .fieldAddr T x f,ty,pos,af,g⟩ s (s.put d (lf (.elt t z (off+o)))):=
  Qg rfl hn fun gh a w r=>by
    obtain ⟨b,o',ds,wN,h1,h2,h3,h4⟩:=hx gh a w r
    refine ⟨.pointer (some ⟨b,o'+(off+o),none⟩), ?_,_,rfl,b,o',ds,wN,rfl,h2,h3,h4⟩
    simp only[execOp,h1,aw,UG hf]
    simp[bK]
theorem Ym {q wd i j o f:Nat}(hx:Evl A s x (.ept q wd i j))(hf:fld P T f=some o)(ha:(s.tab.ent q).isSome=true)(hn:Nat.blt d A.n=true):Does A P ⟨some d, .fieldAddr T x f,ty,pos,af,g⟩ s (s.put d (lf (.ept q wd i (j+o)))):=
  Qg rfl hn fun gh a w r=>by
    obtain ⟨e,he⟩:=b7.1 ha
    obtain ⟨g,n,c,h1,h2⟩:=hx gh a w r ⟨e,he⟩
    refine ⟨.pointer (some ⟨g,i*wd+(j+o),none⟩), ?_,_,rfl,fun _=>⟨g,n,c,h1,rfl⟩⟩
    simp only[execOp,h2,aw,UG hf]
    simp[bK]
theorem Ho {q off:Nat}(hx:Evl A s x (.ptr q off))(ha:(s.tab.ent q).isSome=true)(hn:Nat.blt d A.n=true):Does A P ⟨some d, .nilCheck x,ty,pos,af,g⟩ s (s.put d (lf (.ptr q off))):=
  Qg rfl hn fun gh a w r=>by
    obtain ⟨e,he⟩:=b7.1 ha
    obtain ⟨g,h1,h2⟩:=hx gh a w r ⟨e,he⟩
    refine ⟨.pointer (some ⟨g,off,none⟩), ?_,_,rfl,fun _=>⟨g,h1,rfl⟩⟩
    simp only[execOp,h2]
    simp
theorem Qj0 {q wd i j:Nat}(hx:Evl A s x (.ept q wd i j))(ha:(s.tab.ent q).isSome=true)(hn:Nat.blt d A.n=true):Does A P ⟨some d, .nilCheck x,ty,pos,af,g⟩ s (s.put d (lf (.ept q wd i j))):=
  Qg rfl hn fun gh a w r=>by
    obtain ⟨e,he⟩:=b7.1 ha
    obtain ⟨g,n,c,h1,h2⟩:=hx gh a w r ⟨e,he⟩
    refine ⟨.pointer (some ⟨g,i*wd+j,none⟩), ?_,_,rfl,fun _=>⟨g,n,c,h1,rfl⟩⟩
    simp only[execOp,h2]
    simp
theorem XS {E:TypeId}{i:Int}{n cap b o sz:Nat}{bb:Bool}{w:World}(hT:P.underlying T=some (.slice E))(hE:tsh P E=some (bb,sz))(h0:0≤i)(h1:i < n):
    (Instr.indexAt T (.slice (some ⟨b,o,none⟩) n cap) (.int .i64 i)).run P w= .ok (.pointer (some ⟨b,o+i.toNat*sz,none⟩)) w:=by
  have he:P.elem T=E:=by simp[Program.elem,hT]
  rw[run_indexAt_slice w T _ n cap .i64 i (by rw[he]; exact hT),if_pos ⟨h0,h1⟩,he,Yu hE]
  simp[Addr.add_lit]
theorem H9 {E E':TypeId}{e:Ty}{l:List e.Den}{i:Int}{z:e.Den}{bb:Bool}(hx:Evl A s x (.dat (.sl E e) l))(hy:Evl A s y (dI i))(hT:P.underlying T=some (.slice E'))(hE:tsh P E'=some (bb,e.wd))(hn:Nat.blt d A.n=true)
    (h0:0≤i) (hz:l[i.toNat]? =some z):Does A P ⟨some d, .indexAddr T x y,ty,pos,af,g⟩ s (s.put d (lf (.elt e z 0))):=
  Qg rfl hn fun gh a w r=>by
    have hi:=hy.i r
    obtain ⟨wN,hS,hR⟩:=hx gh a w r
    obtain ⟨B,c,h1,h2,h3⟩:=hR.slv
    rw[h1] at hR
    obtain ⟨b,o,ds,rfl,h5,h6⟩:=hR.at_ hz
    have hlt:i < l.length:=by have:=(ah.1 hz).1; omega
    refine ⟨.pointer (some ⟨b,o+i.toNat*e.wd,none⟩), ?_,_,rfl,b,o+i.toNat*e.wd,ds,wN,rfl,hS,h5,h6⟩
    simp only[execOp,h1,hi,aw,XS hT hE h0 hlt]
    simp
theorem ZL {E E':TypeId}{e:Ty}{q:Nat}{l:List e.Den}{i:Int}{bb:Bool}(hx:Evl A s x (.ref q))(he:s.tab.ent q=some (.arr E e l))(hy:Evl A s y (dI i))(hT:P.underlying T=some (.slice E'))(hE:tsh P E'=some (bb,e.wd))(hn:Nat.blt d A.n=true)
    (h0:0≤i) (h1:i < l.length):Does A P ⟨some d, .indexAddr T x y,ty,pos,af,g⟩ s (s.put d (lf (.ept q e.wd i.toNat 0))):=
  Qg rfl hn fun gh a w r=>by
    have hi:=hy.i r
    have hv:a.eval x=gh.h q:=hx gh a w r ⟨_,he⟩
    have hO:Own (.sl E e) w (gh.f q) [gh.h q] l:=r.cx.en q _ he
    rcases hO with ⟨_,_,h⟩ | ⟨b,cap,cur,fps,h2,h3,h4,h5,h6,h7,h8⟩
    · subst h; simp at h1; omega
    · simp only [aI, and_true] at h3
      refine ⟨.pointer (some ⟨b,0+i.toNat*e.wd,none⟩), ?_,_,rfl,fun _=>⟨b,l.length,cap,h3,by simp⟩⟩
      simp only[execOp,hv,h3,hi,aw,XS hT hE h0 h1]
      simp
theorem XV (l1 l2:List LV):Qw (l1++l2)=Qw l1++Qw l2:=by
  induction l1 with
  | nil=>rfl
  | cons l ls ih=>simp[Qw,ih]
theorem Qet {ls:List LV}(n:Nat):∀q∈Qw (ls.take n),q∈Qw ls:=by
  intro q hq
  rw[← bI n ls,XV]
  exact aQ _ hq
theorem Qe3 {ls:List LV}(n:Nat):∀q∈Qw (ls.drop n),q∈Qw ls:=by
  intro q hq
  rw[← bI n ls,XV]
  exact aT _ hq
theorem LVs.nth {al:Nat→Prop}{gh:Gh}{w:World}{ls:List LV}{vs:List Value}(h:LVs al gh w ls vs){i:Nat}{l:LV}(hl:ls[i]? =some l):∃v,vs[i]? =some v∧LVR al gh w l v:=LVs.get h hl
theorem KR {q off n:Nat}{E:TypeId}{cs:List LV}{l:LV}(hx:Evl A s x (.ptr q off))(he:s.tab.ent q=some (.box E cs))(hT:tsh P T=some (false,n))(hl:cs[off]? =some l)(hn:Nat.blt d A.n=true):
    Does A P ⟨some d, .load T x,ty,pos,af,g⟩ s (s.put d (lf l)):=
  Qg rfl hn fun gh a w r=>by
    obtain ⟨g,h1,h2⟩:=hx gh a w r ⟨_,he⟩
    obtain ⟨g',cur,h3,h4,h5,h6⟩:=r.cx.en q _ he
    rw[h1] at h3
    cases h3
    obtain ⟨v,h7,h8⟩:=h6.nth hl
    refine ⟨v, ?_,_,rfl,h8⟩
    have hc:w.cell? ⟨g,off,none⟩=some v:=by simp only[World.cell?,h5]; simpa using h7
    simp only[execOp,h2,Instr.loadAt,Instr.sureAddr,aw,b5,aH,Z5 hT _ v hc]
theorem UP {q off n:Nat}{E:TypeId}{cs:List LV}(hx:Evl A s x (.ptr q off))(he:s.tab.ent q=some (.box E cs))(hT:tsh P T=some (true,n))(hl:Nat.ble (off+n) cs.length=true)(hn:Nat.blt d A.n=true):
    Does A P ⟨some d, .load T x,ty,pos,af,g⟩ s (s.put d (ag ((cs.drop off).take n))):=
  Qg rfl hn fun gh a w r=>by
    obtain ⟨g,h1,h2⟩:=hx gh a w r ⟨_,he⟩
    obtain ⟨g',cur,h3,h4,h5,h6⟩:=r.cx.en q _ he
    rw[h1] at h3
    cases h3
    have h7:=(h6.drop off).take n
    have hle:=aG hl
    have hcl:=h6.len
    refine ⟨.agg ((cur.toList.drop off).take n).toArray, ?_,_,rfl,h7⟩
    have hr:=Y9 (w:=w) hT g off ((cur.toList.drop off).take n) (by rw[aq,bd,hcl]; omega) fun j u hj=>by
      rw[be] at hj
      split at hj
      · rw [cC] at hj
        simp only[World.cell?,h5]
        simpa using hj
      · cases hj
    simp only[execOp,h2,Instr.loadAt,Instr.sureAddr,aw,b5,aH,hr]
theorem Qco {t:Ty}{z:t.Den}{off n:Nat}{l:LV}(hx:Evl A s x (.elt t z off))(hT:tsh P T=some (false,n))(hl:(leaves t z)[off]? =some l)(hn:Nat.blt d A.n=true):
    Does A P ⟨some d, .load T x,ty,pos,af,g⟩ s (s.put d (lf l)):=
  Qg rfl hn fun gh a w r=>by
    obtain ⟨b,o,ds,wN,h1,h2,h3,h4⟩:=hx gh a w r
    obtain ⟨v,h5,h6⟩:=(Rd.leaves (al:=s.tab.al) (gh:=gh) (w:=w) ⟨wN,h2,h3⟩).nth hl
    refine ⟨v, ?_,_,rfl,h6⟩
    have hc:w.cell? ⟨b,o+off,none⟩=some v:=(h2 _ _ (h4 off v h5)).2
    simp only[execOp,h1,Instr.loadAt,Instr.sureAddr,aw,b5,aH,Z5 hT _ v hc]
theorem UJ:∀(t:Ty) (z:t.Den),Qw (leaves t z)=[]
  | .int,_=>rfl
  | .bool,_=>rfl
  | .str,_=>rfl
  | .u8,_=>rfl
  | .vl,_=>rfl
  | .sl _ _,_=>rfl
  | .pr a b,z=>by simp[leaves,XV,UJ a,UJ b]
theorem Qaf {t:Ty}{z:t.Den}{off n:Nat}(hx:Evl A s x (.elt t z off))(hT:tsh P T=some (true,n))(hl:Nat.ble (off+n) t.wd=true)(hn:Nat.blt d A.n=true):
    Does A P ⟨some d, .load T x,ty,pos,af,g⟩ s (s.put d (ag (((leaves t z).drop off).take n))):=
  Qg rfl hn fun gh a w r=>by
    obtain ⟨b,o,ds,wN,h1,h2,h3,h4⟩:=hx gh a w r
    have h5:=((Rd.leaves (al:=s.tab.al) (gh:=gh) (w:=w) ⟨wN,h2,h3⟩).drop off).take n
    have hle:=aG hl
    have hds:=h3.len
    refine ⟨.agg ((ds.drop off).take n).toArray, ?_,_,rfl,h5⟩
    · have hr:=Y9 (w:=w) hT b (o+off) ((ds.drop off).take n) (by rw[aq,bd,hds]; omega) fun j u hj=>by
        rw[be] at hj
        split at hj
        · rw [cC] at hj
          rw[bK]
          exact (h2 _ _ (h4 (off+j) u hj)).2
        · cases hj
      simp only[execOp,h1,Instr.loadAt,Instr.sureAddr,aw,b5,aH,hr]
end
end Go.Proofs.YtfkmmpfdncopdaaGreat
