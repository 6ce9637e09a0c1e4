import Derived.Test.YtjfpbcmfbnnooaaGreatPAc
set_option linter.all false
namespace Go.Proofs.YtjfpbcmfbnnooaaGreat
open Go.RowKit Tryz
section
variable {A:Amb}{P:Program}{s:St}{x y:Operand}{d:Nat}{T T' ty:TypeId}{pos:String}{af:Array Edge}{g:Option (Nat×Bool)}
def Evl.i {m:Int}(h:Evl A s x (dI m)){gh:Gh}{a:Act}{w:World}(r:Rg A s gh a w):a.eval x= .int .i64 m:=(LVR.int (h gh a w r)).1
def Evl.b {m:Bool}(h:Evl A s x (dB m)){gh:Gh}{a:Act}{w:World}(r:Rg A s gh a w):a.eval x= .bool m:=LVR.bool (h gh a w r)
def Evl.st {m:BA}(h:Evl A s x (dS m)){gh:Gh}{a:Act}{w:World}(r:Rg A s gh a w):a.eval x= .string m:=(LVR.str (h gh a w r)).1
def Evl.u {m:UInt8}(h:Evl A s x (.dat .u8 m)){gh:Gh}{a:Act}{w:World}(r:Rg A s gh a w):a.eval x= .int .u8 m.toNat:=LVR.u8 (h gh a w r)
def Kh {t:Nat}{pv:PV}(h:lk s.tm t=some pv)(f:Nat.blt d A.n=true):Does A P ⟨some d,.move (.tmp t),ty,pos,af,g⟩ s (s.put d pv):=
 Qk rfl f fun i a w r=>by
  obtain ⟨v,b,c⟩:=r.tm t pv h
  have e:a.eval (.tmp t)=v:=by
   show a.tmps.getD t undef=v
   rw[bM,b];rfl
  exact ⟨v,by show Result.ok (Next.value (a.eval (.tmp t))) w=_;rw[e],c⟩
def UM {t:Nat}{pv:PV}(h:lk s.tm t=some pv)(f:Nat.blt d A.n=true):Does A P ⟨some d,.assign (.tmp t),ty,pos,af,g⟩ s (s.put d pv):=
 Qk rfl f fun i a w r=>by
  obtain ⟨v,b,c⟩:=r.tm t pv h
  have e:a.eval (.tmp t)=v:=by
   show a.tmps.getD t undef=v
   rw[bM,b];rfl
  exact ⟨v,by show Result.ok (Next.value (a.eval (.tmp t))) w=_;rw[e],c⟩
def Qfg {l:LV}(h:Evl A s x l)(c:Nat.blt d A.n=true):Does A P ⟨some d,.move x,ty,pos,af,g⟩ s (s.put d (lf l)):=
 Qk rfl c fun b a w r=>⟨a.eval x,rfl,l,rfl,h b a w r⟩
def WA {l:LV}(h:Evl A s x l)(c:Nat.blt d A.n=true):Does A P ⟨some d,.assign x,ty,pos,af,g⟩ s (s.put d (lf l)):=
 Qk rfl c fun b a w r=>⟨a.eval x,rfl,l,rfl,h b a w r⟩
def QbT {t i:Nat}{cs:List (Bool×List LV)}{b:Bool}{ls:List LV}(h:lk s.tm t=some (.tup cs))(hi:cs[i]? =some (b,ls))(u:Nat.blt d A.n=true):
 Does A P ⟨some d,.extract (.tmp t) i,ty,pos,af,g⟩ s (s.put d (.cm b ls)):=
 Qk rfl u fun m a w r=>by
  obtain ⟨v,o,f,rfl,p⟩:=r.tm t _ h
  have e:a.eval (.tmp t)= .tuple f.toArray:=by
   show a.tmps.getD t undef=_
   rw[bM,o];rfl
  have q:∀(cs:List (Bool×List LV)) (f:List Value) (i:Nat),CmsR s.tab.al m w cs f→cs[i]? =some (b,ls)→∃v,f[i]? =some v∧CmR s.tab.al m w (b,ls) v:=by
   intro cs
   induction cs with
   | nil=>intro f i _ h;simp at h
   | cons c cs z=>
    rintro f i ⟨v,l,rfl,j,k⟩ hi
    cases i with
    | zero=>simp at hi;subst hi;exact ⟨v,rfl,j⟩
    | succ i=>
     obtain ⟨D,B,C⟩:=z l i k (by simpa using hi)
     exact ⟨D,by simpa using B,C⟩
  obtain ⟨v,j,k⟩:=q cs f i p hi
  exact ⟨v,by simp only[execOp,e,Instr.extract];simp[j,aw],k⟩
def Qfd {m n:Int}(f:Evl A s x (dI m))(h:Evl A s y (dI n))(e:Nat.blt d A.n=true):Does A P ⟨some d,.binOp .lss T x y T',ty,pos,af,g⟩ s (s.put d (lf (dB (decide (m<n))))):=
 Qk rfl e fun j a w r=>⟨.bool (decide (m<n)),by
  have b:=f.i r
  have c:=h.i r
  simp only[execOp,b,c,eqGuard_at_int,binOp,Op.intCmp]
  simp,_,rfl,ZY⟩
def Qkf {m n:Int}(f:Evl A s x (dI m))(h:Evl A s y (dI n))(e:Nat.blt d A.n=true):Does A P ⟨some d,.binOp .leq T x y T',ty,pos,af,g⟩ s (s.put d (lf (dB (decide (m≤n))))):=
 Qk rfl e fun j a w r=>⟨.bool (decide (m≤n)),by
  have b:=f.i r
  have c:=h.i r
  simp only[execOp,b,c,eqGuard_at_int,binOp,Op.intCmp]
  simp,_,rfl,ZY⟩
def Qkd {m n:Int}(f:Evl A s x (dI m))(h:Evl A s y (dI n))(e:Nat.blt d A.n=true):Does A P ⟨some d,.binOp .gtr T x y T',ty,pos,af,g⟩ s (s.put d (lf (dB (decide (n<m))))):=
 Qk rfl e fun j a w r=>⟨.bool (decide (n<m)),by
  have b:=f.i r
  have c:=h.i r
  simp only[execOp,b,c,eqGuard_at_int,binOp,Op.intCmp]
  simp,_,rfl,ZY⟩
def Qfa {m n:Int}(f:Evl A s x (dI m))(h:Evl A s y (dI n))(e:Nat.blt d A.n=true):Does A P ⟨some d,.binOp .geq T x y T',ty,pos,af,g⟩ s (s.put d (lf (dB (decide (n≤m))))):=
 Qk rfl e fun j a w r=>⟨.bool (decide (n≤m)),by
  have b:=f.i r
  have c:=h.i r
  simp only[execOp,b,c,eqGuard_at_int,binOp,Op.intCmp]
  simp,_,rfl,ZY⟩
def Vi {m n:Int}(f:Evl A s x (dI m))(h:Evl A s y (dI n))(e:Nat.blt d A.n=true):Does A P ⟨some d,.binOp .eql T x y T',ty,pos,af,g⟩ s (s.put d (lf (dB (decide (m=n))))):=
 Qk rfl e fun j a w r=>⟨.bool (decide (m=n)),by
  have b:=f.i r
  have c:=h.i r
  simp only[execOp,b,c,eqGuard_at_int,binOp,Op.intCmp]
  simp;rfl,_,rfl,ZY⟩
def Vk {m n:Int}(f:Evl A s x (dI m))(h:Evl A s y (dI n))(e:Nat.blt d A.n=true):Does A P ⟨some d,.binOp .neq T x y T',ty,pos,af,g⟩ s (s.put d (lf (dB (!decide (m=n))))):=
 Qk rfl e fun j a w r=>⟨.bool (!decide (m=n)),by
  have b:=f.i r
  have c:=h.i r
  simp only[execOp,b,c,eqGuard_at_int,binOp,Op.intCmp]
  simp;rfl,_,rfl,ZY⟩
def V5 {m n:Int}(h:Evl A s x (dI m))(j:Evl A s y (dI n))(f:Nat.blt d A.n=true)(hb: -9223372036854775808≤m+n∧m+n≤9223372036854775807):Does A P ⟨some d,.binOp .add T x y T',ty,pos,af,g⟩ s (s.put d (lf (dI (m+n)))):=
 Qk rfl f fun k a w r=>⟨.int .i64 (m+n),by
  have b:=h.i r
  have c:=j.i r
  have e:IntKind.i64.wrap (m+n)=m+n:=IntWalk.i64_in _ (by omega)
  simp only[execOp,b,c,eqGuard_at_int,binOp,Op.intArith,e]
  simp,_,rfl,YR hb⟩
def V6 {m n:Int}(h:Evl A s x (dI m))(j:Evl A s y (dI n))(f:Nat.blt d A.n=true)(hb: -9223372036854775808≤m - n∧m - n≤9223372036854775807):Does A P ⟨some d,.binOp .sub T x y T',ty,pos,af,g⟩ s (s.put d (lf (dI (m - n)))):=
 Qk rfl f fun k a w r=>⟨.int .i64 (m - n),by
  have b:=h.i r
  have c:=j.i r
  have e:IntKind.i64.wrap (m - n)=m - n:=IntWalk.i64_in _ (by omega)
  simp only[execOp,b,c,eqGuard_at_int,binOp,Op.intArith,e]
  simp,_,rfl,YR hb⟩
def Qkg {m n:Int}(h:Evl A s x (dI m))(j:Evl A s y (dI n))(f:Nat.blt d A.n=true)(hb: -9223372036854775808≤m*n∧m*n≤9223372036854775807):Does A P ⟨some d,.binOp .mul T x y T',ty,pos,af,g⟩ s (s.put d (lf (dI (m*n)))):=
 Qk rfl f fun k a w r=>⟨.int .i64 (m*n),by
  have b:=h.i r
  have c:=j.i r
  have e:IntKind.i64.wrap (m*n)=m*n:=IntWalk.i64_in _ (by omega)
  simp only[execOp,b,c,eqGuard_at_int,binOp,Op.intArith,e]
  simp,_,rfl,YR hb⟩
def Qfj {m n:Int}(b:Evl A s x (dI m))(f:Evl A s y (dI n))(e:Nat.blt d A.n=true)(h0:0≤m)(p:0<n):Does A P ⟨some d,.binOp .quo T x y T',ty,pos,af,g⟩ s (s.put d (lf (dI (m / n)))):=
 Qk rfl e fun c a w r=>by
  have h:=b.i r
  have j:=f.i r
  have q:=(LVR.int (b c a w r)).2
  have k:m.tdiv n=m / n:=Int.tdiv_eq_ediv_of_nonneg h0
  have t:0≤m / n:=Int.ediv_nonneg h0 (by omega)
  have u:m / n≤m:=Int.ediv_le_self _ h0
  have l:IntKind.i64.wrap (m / n)=m / n:=IntWalk.i64_in _ (by omega)
  have o:n≠0:=by omega
  refine ⟨.int .i64 (m / n),?_,_,rfl,YR (by omega)⟩
  simp only[execOp,h,j,eqGuard_at_int,binOp,Op.intDiv,k,l]
  simp[o]
def QbU {m n:Int}(c:Evl A s x (dI m))(e:Evl A s y (dI n))(h:Nat.blt d A.n=true)(h0:0≤m)(f:0<n):Does A P ⟨some d,.binOp .rem T x y T',ty,pos,af,g⟩ s (s.put d (lf (dI (m % n)))):=
 Qk rfl h fun b a w r=>by
  have j:=c.i r
  have k:=e.i r
  have p:=(LVR.int (c b a w r)).2
  have u:=(LVR.int (e b a w r)).2
  have l:m.tmod n=m % n:=Int.tmod_eq_emod_of_nonneg h0
  have q:0≤m % n:=Int.emod_nonneg _ (by omega)
  have t:m % n<n:=Int.emod_lt_of_pos _ f
  have o:n≠0:=by omega
  refine ⟨.int .i64 (m % n),?_,_,rfl,YR (by omega)⟩
  simp only[execOp,j,k,eqGuard_at_int,binOp,Op.intDiv,l]
  simp[o]
def Qol {a b:UInt8}:((a.toNat:Int)==(b.toNat:Int))=decide (a=b):=by
 rw[cC]
 simp only[beq_iff_eq,aY]
 constructor
 ·intro h;exact UInt8.toNat_inj.1 (by omega)
 ·rintro rfl;rfl
def Zf {m n:UInt8}(f:Evl A s x (.dat .u8 m))(h:Evl A s y (.dat .u8 n))(e:Nat.blt d A.n=true):Does A P ⟨some d,.binOp .eql T x y T',ty,pos,af,g⟩ s (s.put d (lf (dB (decide (m=n))))):=
 Qk rfl e fun i a w r=>⟨.bool (decide (m=n)),by
  have b:=f.u r
  have c:=h.u r
  simp only[execOp,b,c,eqGuard_at_int,binOp,Op.intCmp]
  simp[Qol,bne,UInt8.lt_iff_toNat_lt,UInt8.le_iff_toNat_le],_,rfl,ZY⟩
def QW {m n:UInt8}(f:Evl A s x (.dat .u8 m))(h:Evl A s y (.dat .u8 n))(e:Nat.blt d A.n=true):Does A P ⟨some d,.binOp .neq T x y T',ty,pos,af,g⟩ s (s.put d (lf (dB (!decide (m=n))))):=
 Qk rfl e fun i a w r=>⟨.bool (!decide (m=n)),by
  have b:=f.u r
  have c:=h.u r
  simp only[execOp,b,c,eqGuard_at_int,binOp,Op.intCmp]
  simp[Qol,bne,UInt8.lt_iff_toNat_lt,UInt8.le_iff_toNat_le],_,rfl,ZY⟩
def QcF {a b:BA}:(a.toList==b.toList)=decide (a=b):=by
 rw[cC]
 simp only[beq_iff_eq,aY]
 constructor
 ·intro h
  rw[bc,bc] at h
  cases a;cases b
  simpa using h
 ·rintro rfl;rfl
def Qaa {m n:BA}(f:Evl A s x (dS m))(h:Evl A s y (dS n))(e:Nat.blt d A.n=true):Does A P ⟨some d,.binOp .eql T x y T',ty,pos,af,g⟩ s (s.put d (lf (dB (decide (m=n))))):=
 Qk rfl e fun i a w r=>⟨.bool (decide (m=n)),by
  have b:=f.st r
  have c:=h.st r
  simp only[execOp,b,c,eqGuard_at_string,binOp,Op.stringOp]
  simp[QcF],_,rfl,ZY⟩
def V0 {m n:BA}(f:Evl A s x (dS m))(h:Evl A s y (dS n))(e:Nat.blt d A.n=true):Does A P ⟨some d,.binOp .neq T x y T',ty,pos,af,g⟩ s (s.put d (lf (dB (!decide (m=n))))):=
 Qk rfl e fun i a w r=>⟨.bool (!decide (m=n)),by
  have b:=f.st r
  have c:=h.st r
  simp only[execOp,b,c,eqGuard_at_string,binOp,Op.stringOp]
  simp[QcF],_,rfl,ZY⟩
def Qhx {m n:BA}(f:Evl A s x (dS m))(h:Evl A s y (dS n))(e:Nat.blt d A.n=true):Does A P ⟨some d,.binOp .lss T x y T',ty,pos,af,g⟩ s (s.put d (lf (dB (Op.bytesLess m.toList n.toList)))):=
 Qk rfl e fun i a w r=>⟨.bool (Op.bytesLess m.toList n.toList),by
  have b:=f.st r
  have c:=h.st r
  simp only[execOp,b,c,eqGuard_at_string,binOp,Op.stringOp]
  simp[QcF],_,rfl,ZY⟩
def QX {m n:BA}(f:Evl A s x (dS m))(h:Evl A s y (dS n))(e:Nat.blt d A.n=true)(hb:m.size+n.size≤9223372036854775807):Does A P ⟨some d,.binOp .add T x y T',ty,pos,af,g⟩ s (s.put d (lf (dS (m++n)))):=
 Qk rfl e fun i a w r=>⟨.string (m++n),by
  have b:=f.st r
  have c:=h.st r
  simp only[execOp,b,c,eqGuard_at_string,binOp]
  simp[aw,run_string_add_sum w m n hb],_,rfl,Qeu (by unfold maxLen;simpa using hb)⟩
def Wr {m n:Bool}(i:Evl A s x (dB m))(j:Evl A s y (dB n))(h:Nat.blt d A.n=true)(f:P.underlying T=some .bool):Does A P ⟨some d,.binOp .eql T x y T',ty,pos,af,g⟩ s (s.put d (lf (dB (m==n)))):=
 Qk rfl h fun k a w r=>⟨.bool (m==n),by
  have c:=i.b r
  have e:=j.b r
  simp only[execOp,c,e,eqGuard_at_bool]
  simp[run_eql_bool _ _ _ _ f,aw],_,rfl,ZY⟩
def ZG {m n:Bool}(i:Evl A s x (dB m))(j:Evl A s y (dB n))(h:Nat.blt d A.n=true)(f:P.underlying T=some .bool):Does A P ⟨some d,.binOp .neq T x y T',ty,pos,af,g⟩ s (s.put d (lf (dB (!(m==n))))):=
 Qk rfl h fun k a w r=>⟨.bool (!(m==n)),by
  have c:=i.b r
  have e:=j.b r
  simp only[execOp,c,e,eqGuard_at_bool]
  simp[run_neq_bool _ _ _ _ f,aw],_,rfl,ZY⟩
def Qkh {m:Bool}(f:Evl A s x (dB m))(e:Nat.blt d A.n=true):Does A P ⟨some d,.unOp .not T x,ty,pos,af,g⟩ s (s.put d (lf (dB (!m)))):=
 Qk rfl e fun h a w r=>⟨.bool (!m),by
  have c:=f.b r
  simp only[execOp,c,unary_not]
  simp,_,rfl,ZY⟩
def QdL {m:BA}{i:Int}{c:UInt8}(k:Evl A s x (dS m))(l:Evl A s y (dI i))(j:Nat.blt d A.n=true)(f:P.underlying T=some .string)(h0:0≤i)(h:m[i.toNat]? =some c):
 Does A P ⟨some d,.index T x y,ty,pos,af,g⟩ s (s.put d (lf (.dat .u8 c))):=
 Qk rfl j fun o a w r=>⟨.int .u8 c.toNat,by
  have b:=k.st r
  have e:=l.i r
  simp only[execOp,b,e,Instr.index,asIntOf]
  simp[run_underlying f,h0,h,aw],_,rfl,QiD⟩
def QcL {m:BA}(b:Evl A s x (dS m))(i:Nat.blt d A.n=true)(h:P.underlying T=some .string):Does A P ⟨some d,.call ⟨.builtin .len,#[x],#[T]⟩,ty,pos,af,g⟩ s (s.put d (lf (dI m.size))):=
 Qk rfl i fun c a w r=>by
  have e:=b.st r
  have f:=(LVR.str (b c a w r)).2
  refine ⟨.int .i64 m.size,?_,_,rfl,YR (by unfold maxLen at f;omega)⟩
  simp only[execOp,resolve,invoke,builtin]
  simp[aw,e,run_len_string w T ty m h,goInt]
def Does.len {E:TypeId}{e:Ty}{l:List e.Den}(m:Evl A s x (.dat (.sl E e) l))(k:Nat.blt d A.n=true)(b:P.underlying T=some (.slice E)):Does A P ⟨some d,.call ⟨.builtin .len,#[x],#[T]⟩,ty,pos,af,g⟩ s (s.put d (lf (dI l.length))):=
 Qk rfl k fun f a w r=>by
  obtain ⟨B,c,h,o,i⟩:=(Rd.rep (m f a w r)).slv
  have j:P.elem T=E:=by simp[Program.elem,b]
  refine ⟨.int .i64 l.length,?_,_,rfl,YR (by unfold maxLen at i;omega)⟩
  simp only[execOp,resolve,invoke,builtin]
  simp[aw,h,run_len_slice w T ty B l.length c (by rw[j];exact b),goInt]
def Qhw {q:Nat}{E E':TypeId}{e:Ty}{l:List e.Den}(v:Evl A s x (.ref q))(j:s.tab.ent q=some (.arr E e l))(u:Nat.blt d A.n=true)(i:P.underlying T=some (.slice E')):
 Does A P ⟨some d,.call ⟨.builtin .len,#[x],#[T]⟩,ty,pos,af,g⟩ s (s.put d (lf (dI l.length))):=
 Qk rfl u fun b a w r=>by
  have k:a.eval x=b.h q:=v b a w r ⟨_,j⟩
  have t:Own (.sl E e) w (b.f q) [b.h q] l:=r.cx.en q _ j
  obtain ⟨B,c,m,z,o⟩:=t.rep.slv
  have p:P.elem T=E':=by simp[Program.elem,i]
  refine ⟨.int .i64 l.length,?_,_,rfl,YR (by unfold maxLen at o;omega)⟩
  simp only[execOp,resolve,invoke,builtin]
  simp[aw,k,m,run_len_slice w T ty B l.length c (by rw[p];exact i),goInt]
end
def tsh (P:Program)(T:TypeId):Option (Bool×Nat):=match P.underlying T,P.info? T with
 | some (.struct _),some i=>some (true,i.size)
 | some (.array _ _),some i=>some (true,i.size)
 | some _,some i=>some (false,i.size)
 | _,_=>none
def fld (P:Program)(T:TypeId)(f:Nat):Option Nat:=match P.underlying T with
 | some (.struct fs)=>match fs[f]? with
  | some fd=>match P.info? fd.type with
   | some i=>match i.size with
    | 0=>none
    | _+1=>some fd.offset
   | none=>none
  | none=>none
 | _=>none
def zer (P:Program)(T:TypeId):Option Value:=match P.info? T with
 | some i=>i.zero
 | none=>none
section
variable {P:Program}{T:TypeId}{w:World}
theorem YD {b:Bool}{n:Nat}(h:tsh P T=some (b,n)):(sizeOf T).run P w= .ok n w:=by
 unfold tsh at h
 cases a:P.info? T with
 | none=>rw[a] at h;cases c:P.underlying T with
  | none=>rw[c] at h;cases h
  | some d=>rw[c] at h;cases d <;> cases h
 | some i=>
  rw[a] at h
  have e:i.size=n:=by
   grind
  simp[sizeOf,typeInfo,a,e,aw]
def Qaq {b:Bool}{n:Nat}(h:tsh P T=some (b,n)):(isAgg T).run P w= .ok b w:=by
 unfold tsh at h
 cases a:P.underlying T with
 | none=>rw[a] at h;cases h
 | some d=>
  rw[a] at h
  cases c:P.info? T with
  | none=>rw[c] at h;cases d <;> cases h
  | some i=>rw[c] at h;cases d <;> (simp at h;simp[isAgg,run_underlying a,aw,h.1])
def QcC (b o:Nat):∀(vs:List Value) (i:Nat) (acc:Array Value),(∀j u,vs[j]? =some u→w.cell? ⟨b,o+(i+j),none⟩=some u)→
 (loadCellsFrom ⟨b,o,none⟩ i vs.length acc).run P w= .ok (acc++vs.toArray) w:=by
 intro vs
 induction vs with
 | nil=>intro i acc _;simp[loadCellsFrom]
 | cons v vs f=>
  intro i acc h
  have a:=h 0 v rfl
  rw[ec] at a
  have c:=f (i+1) (acc.push v) fun j u e=>by
   have:=h (j+1) u e
   rwa [show i+(j+1)=i+1+j by omega] at this
  simp only[av,loadCellsFrom]
  simp only[aw,Addr.add_lit,run_load,a,aF,c]
  simp
def Wl {n:Nat}(h:tsh P T=some (true,n))(b o:Nat)(vs:List Value)(c:vs.length=n)(a:∀j u,vs[j]? =some u→w.cell? ⟨b,o+j,none⟩=some u):
 (loadVar T ⟨b,o,none⟩).run P w= .ok (.agg vs.toArray) w:=by
 subst c
 have:=QcC (P:=P) (w:=w) b o vs 0 #[] (by simpa using a)
 simp only[loadVar,loadCells,aw,Qaq h,aF,if_true,YD h,this]
 simp
def Yl {n:Nat}(h:tsh P T=some (false,n))(p:Addr)(v:Value)(a:w.cell? p=some v):(loadVar T p).run P w= .ok v w:=by
 simp only[loadVar,aw,Qaq h,aF]
 simp[a]
def H1 {f o:Nat}(h:fld P T f=some o)(b k:Nat):(Instr.fieldAt T (.pointer (some ⟨b,k,none⟩)) f).run P w= .ok (.pointer (some ⟨b,k+o,none⟩)) w:=by
 unfold fld at h
 cases j:P.underlying T with
 | none=>rw[j] at h;cases h
 | some d=>
  rw[j] at h
  cases d with
  | struct n=>
   simp only at h
   cases a:n[f]? with
   | none=>rw[a] at h;cases h
   | some l=>
    rw[a] at h
    simp only at h
    cases c:P.info? l.type with
    | none=>rw[c] at h;cases h
    | some i=>
     rw[c] at h
     simp only at h
     cases e:i.size with
     | zero=>rw[e] at h;cases h
     | succ m=>
      rw[e] at h
      simp at h
      subst h
      simp[Instr.fieldAt,run_underlying j,a,Instr.sureAddr,fieldPlace,sizeOf,typeInfo,c,e,aw,Addr.add_lit]
  | _=>cases h
def H2 {b:Nat}{E:TypeId}:∀(vs:List Value) (o i:Nat) (w:World) (cur:Array Value),w.heap[b]? =some (.cells cur E (0,0))→o+i+vs.length≤cur.size→(∀v∈vs,v.oneCell'=true)→
 (storeCells ⟨b,o,none⟩ vs i).run P w= .ok () (Wx w b (o+i) vs):=by
 intro vs
 induction vs with
 | nil=>intro o i w cur _ _ _;simp[storeCells,Wx]
 | cons v vs l=>
  intro o i w cur a j c
  simp only[av] at j
  have f:w.cell? ⟨b,o+i,none⟩=some (cur[o+i]'(by omega)):=by simp[World.cell?,a,show o+i<cur.size by omega]
  have h:w.frozen? ⟨b,o+i,none⟩=false:=by simp[World.frozen?,a]
  have e:=l o (i+1) (w.setCell ⟨b,o+i,none⟩ v) (cur.setIfInBounds (o+i) v) (by simp[World.setCell,Array.getElem?_modify,a]) (by simp;omega) fun v k=>c v (az _ k)
  simp only[storeCells,aw,Addr.add_lit,run_store P w _ v .plain (c v (aA ..)),f,h,aF,if_false,cc]
  simpa [Wx,bX] using e
def VX {b o:Nat}{E:TypeId}{g:Bool}{n:Nat}(h:tsh P T=some (g,n))(v:Value)(vs:List Value)(hv:v.cells=vs.toArray)(f:vs.length=n){cur:Array Value}(hb:w.heap[b]? =some (.cells cur E (0,0)))
 (hs:o+n≤cur.size) (h1:∀v∈vs,v.oneCell'=true):(storeVar T ⟨b,o,none⟩ v).run P w= .ok () (Wx w b o vs):=by
 have a:=H2 (P:=P) vs o 0 w cur hb (by omega) h1
 have c:v.cells.toList=vs:=by rw[hv]
 have e:v.cells.size=n:=by rw[hv];simpa using f
 simp only[storeVar,aw,YD h,aF,c,e]
 simpa using a
end
def LVR.oneCell {al:Nat→Prop}{gh:Gh}{w:World}{l:LV}{v:Value}(h:LVR al gh w l v)(r:∀u,l= .val u→u.oneCell'=true)(a:∀q∈l.tags,al q)
 (hc:∀q,al q→(gh.h q).oneCell'=true):v.oneCell'=true:=by
 cases l with
 | val u=>rw[show v=u from h];exact r u rfl
 | dat t x=>exact Rep.one (Rd.rep h) v (by simp)
 | ref q=>rw[show v=_ from h (a q (by simp[LV.tags]))];exact hc q (a q (by simp[LV.tags]))
 | ptr q k=>obtain ⟨g,_,e⟩:=h (a q (by simp[LV.tags]));rw[e];rfl
 | ept q C i j=>obtain ⟨g,n,c,_,e⟩:=h (a q (by simp[LV.tags]));rw[e];rfl
 | sub q C E n=>obtain ⟨B,m,c,_,e⟩:=h (a q (by simp[LV.tags]));rw[e];rfl
 | elt t x k=>obtain ⟨b,o,D,G,p,_⟩:=h;rw[p];rfl
 | clo f F=>rw[show v=_ from h fun q z=>a q (by simpa [LV.tags] using z)];rfl
def EntR.oneCell {al:Nat→Prop}{gh:Gh}{w:World}{q:Nat}{e:Ent}(h:EntR al gh w q e):(gh.h q).oneCell'=true:=by
 cases e with
 | box E u=>obtain ⟨g,b,a,_⟩:=h;rw[a];rfl
 | arr E e r=>exact Rep.one (Own.rep (t:= .sl E e) h) _ (by simp)
 | obx E F n j C=>obtain ⟨_,g,c,b,fps,a,_⟩:=h;rw[a];rfl
 | mp B k D v m=>obtain ⟨g,z,i,a,_⟩:=h;rw[a];rfl
 | bys E l=>obtain ⟨g,c,b,a,_⟩:=h;rw[a];rfl
 | pl o e p f=>cases o <;> (rw[h.1];rfl)
 | fz E e r=>obtain ⟨p,a,_⟩:=h;exact Rep.one (Own.rep (t:= .sl E .vl) a) _ (by simp)
 | res R=>exact R.one h
def Xh (T:Tab):LV→Bool
 | .val u=>u.oneCell'
 | .dat _ _=>true
 | .elt _ _ _=>true
 | .ref q=>(T.ent q).isSome
 | .ptr q _=>(T.ent q).isSome
 | .ept q _ _ _=>(T.ent q).isSome
 | .sub q _ _ _=>(T.ent q).isSome
 | .clo _ qs=>qs.all fun q=>(T.ent q).isSome
def QH (T:Tab):List LV→Bool
 | []=>true
 | l::ls=>Xh T l&&QH T ls
def Vf {T:Tab}{l:LV}(h:Xh T l=true):(∀q∈l.tags,T.al q)∧∀u,l= .val u→u.oneCell'=true:=by
 have k:∀q,(T.ent q).isSome=true→T.al q:=fun q m=>bq.1 m
 cases l with
 | val u=>exact ⟨by simp[LV.tags],fun j e=>by cases e;exact h⟩
 | dat t x=>exact ⟨by simp[LV.tags],fun j e=>by cases e⟩
 | elt t x o=>exact ⟨by simp[LV.tags],fun j e=>by cases e⟩
 | ref q=>exact ⟨by intro r i;simp[LV.tags] at i;subst i;exact k _ h,fun j e=>by cases e⟩
 | ptr q o=>exact ⟨by intro r i;simp[LV.tags] at i;subst i;exact k _ h,fun j e=>by cases e⟩
 | ept q a b c=>exact ⟨by intro r i;simp[LV.tags] at i;subst i;exact k _ h,fun j e=>by cases e⟩
 | sub q a b c=>exact ⟨by intro r i;simp[LV.tags] at i;subst i;exact k _ h,fun j e=>by cases e⟩
 | clo f n=>exact ⟨by intro r i;exact k _ (ao.1 h r (by simpa [LV.tags] using i)),fun j e=>by cases e⟩
def LVs.oneCells {T:Tab}{gh:Gh}{w:World}(c:Cx T gh w){ls:List LV}{vs:List Value}(h:LVs T.al gh w ls vs)(a:QH T ls=true):∀v∈vs,v.oneCell'=true:=by
 induction ls generalizing vs with
 | nil=>rw[show vs=[] from h];simp
 | cons l ls o=>
  obtain ⟨v,p,rfl,f,i⟩:=h
  simp only[QH,aH] at a
  obtain ⟨j,k⟩:=Vf a.1
  intro u b
  rcases aK.1 b with rfl|b
  ·exact f.oneCell k j fun q n=>by obtain ⟨e,m⟩:=n;exact (c.en q e m).oneCell
  ·exact o i a.2 u b
def CmR.cells {al:Nat→Prop}{gh:Gh}{w:World}{b:Bool}{ls:List LV}{v:Value}(h:CmR al gh w (b,ls) v)(c:b=false→v.oneCell'=true):∃vs,v.cells=vs.toArray∧LVs al gh w ls vs:=by
 cases b with
 | true=>obtain ⟨vs,rfl,a⟩:=h;exact ⟨vs,rfl,a⟩
 | false=>
  obtain ⟨l,rfl,a⟩:=h
  have:=c rfl
  exact ⟨[v],by cases v <;> first|rfl|(simp[Value.oneCell'] at this),v,[],rfl,a,rfl⟩
section
variable {A:Amb}{P:Program}{s:St}{x y:Operand}{d:Nat}{T T' ty:TypeId}{pos:String}{af:Array Edge}{g:Option (Nat×Bool)}
def Rg.grow {gh:Gh}{a:Act}{w:World}(r:Rg A s gh a w)(t:Nat)(z:Fresh s t)(E:A.k0≤t)(o:Obj)(hv:Value)(fp:List Nat)(e:Ent)
 (hfp:∀g∈fp,g=w.heap.size) (hnd:fp.Nodup) (htag:t∉e.tags)
 (he:EntR s.tab.al ⟨fun q=>if q=t then hv else gh.h q,fun q=>if q=t then fp else gh.f q,gh.N⟩ (w.alloc o) t e):
 Rg A ⟨s.tm,(t,some e)::s.tab⟩ ⟨fun q=>if q=t then hv else gh.h q,fun q=>if q=t then fp else gh.f q,gh.N⟩ a (w.alloc o):=by
 have u:∀q,q≠t→(Tab.al ((t,some e)::s.tab) q↔s.tab.al q):=fun q n=>by
  unfold Tab.al;rw[Qi,if_neg n]
 have m:∀g,g<w.heap.size→(w.alloc o).heap[g]? =w.heap[g]? :=fun g b=>Below.heap_alloc w _ g b
 have F:(w.alloc o).heap.size=w.heap.size+1:=by simp
 have c:∀q,Tab.al ((t,some e)::s.tab) q→q=t∨(q≠t∧s.tab.al q):=fun q n=>by
  by_cases h:q=t
  ·exact .inl h
  ·exact .inr ⟨h,(u q h).1 n⟩
 refine r.step ?_ ?_ ?_ ⟨rfl,rfl,rfl,by omega⟩ (fun g b _=>m g b) (fun g b=> .inl b) ?_
 ·refine ⟨fun q C h=> ?_,fun q I p l j g b i=> ?_,fun q h=> ?_,fun q h g b=> ?_,fun g b=>by rw[F];have:=r.cx.nl g b;omega⟩
  ·rw[Qi] at h
   by_cases n:q=t
   ·rw[if_pos n] at h
    subst n
    cases h
    exact he.mono (fun B v D=>⟨(u B (fun h=>htag (h▸v))).1 D,rfl⟩) (fun g b=>⟨b,rfl⟩) rfl rfl fun g b=>rfl
   ·rw[if_neg n] at h
    exact (r.cx.en q C h).mono (fun B v D=>by
     have j:B≠t:=fun l=>z.en q C h (l▸v)
     exact ⟨(u B j).1 D,by simp[j]⟩) (fun g b=>⟨b,m g (r.cx.nl g b)⟩) (by simp[n]) (by simp[n]) fun g b=>m g (r.cx.lt ⟨C,h⟩ g b)
  ·rcases c q p with p|⟨p,G⟩ <;> rcases c I l with l|⟨l,H⟩
   ·exact j (p.trans l.symm)
   ·subst p
    simp only[if_true] at b
    simp only[if_neg l] at i
    have:=r.cx.lt H g i
    have:=hfp g b
    omega
   ·subst l
    simp only[if_true] at i
    simp only[if_neg p] at b
    have:=r.cx.lt G g b
    have:=hfp g i
    omega
   ·simp only[if_neg p] at b
    simp only[if_neg l] at i
    exact r.cx.dj q I G H j g b i
  ·rcases c q h with h|⟨h,k⟩
   ·subst h;simpa using hnd
   ·simp only[if_neg h];exact r.cx.nd q k
  ·rcases c q h with h|⟨h,k⟩
   ·subst h
    simp only[if_true] at b
    intro J
    have:=r.cx.nl g J
    have:=hfp g b
    omega
   ·simp only[if_neg h] at b
    exact r.cx.no q k g b
 ·intro q h
  rcases c q h with h|⟨h,k⟩
  ·exact .inr ⟨h▸z,h▸E⟩
  ·exact .inl ⟨k,by simp[h],fun _=>by simp[h]⟩
 ·exact fun g b=>⟨b,m g (r.cx.nl g b)⟩
 ·intro q h g b
  rcases c q h with h|⟨h,k⟩
  ·subst h
   simp only[if_true] at b
   exact .inl (by rw[hfp g b];exact aP _)
  ·simp only[if_neg h] at b
   exact .inr ⟨q,k,b⟩
@[reducible] def St.new (s:St) (d:Nat) (t:Nat) (l:LV) (e:Ent):St:=⟨(d,lf l)::s.tm,(t,some e)::s.tab⟩
def Qkj {T:Tab}{ls:List LV}(b:QH T ls=true):∀q∈QQ ls,T.al q:=by
 induction ls with
 | nil=>simp[QQ]
 | cons l ls c=>
  simp only[QH,aH] at b
  intro q a
  rcases aO.1 a with a|a
  ·exact (Vf b.1).1 q a
  ·exact c b.2 q a
def Rg.box {gh:Gh}{a:Act}{w:World}(r:Rg A s gh a w)(t:Nat)(b:Fresh s t)(c:A.k0≤t)(E:TypeId){ls:List LV}{vs:List Value}(h:LVs s.tab.al gh w ls vs)(f:∀q∈QQ ls,s.tab.al q)(i:d<A.n):
 R A (s.new d t (.ptr t 0) (.box E ls)) (a.put (some d) (.pointer (some ⟨w.heap.size,0,none⟩))) (w.alloc (.cells vs.toArray E)):=by
 refine ⟨_,(r.grow t b c (.cells vs.toArray E) (.pointer (some ⟨w.heap.size,0,none⟩)) [w.heap.size] (.box E ls) (by simp) (by simp) (fun h=>b.al (f t h)) ?_).put i (pv:=lf (.ptr t 0)) ⟨_,rfl,fun _=>⟨w.heap.size,by simp,rfl⟩⟩⟩
 refine ⟨w.heap.size,vs.toArray,by simp,by simp,heap_alloc_new w _,?_⟩
 exact h.mono (fun q j k=>⟨k,by
  have:q≠t:=fun h=>b.al (h▸f q j)
  simp[this]⟩) fun g e=>⟨e,Below.heap_alloc w _ g (r.cx.nl g e)⟩
def QsG (t:Nat){b:Bool}{ls:List LV}(C:Ev A s x (b,ls))(h:QH s.tab ls=true)(B:Nat.blt d A.n=true)(f:Fresh s t)(i:A.k0≤t):Does A P ⟨some d,.box T x,ty,pos,af,g⟩ s (s.new d t (.ptr t 0) (.box T ls)):=
 fun a w K Q r u=>by
  obtain ⟨k,r⟩:=r
  have j:=C k a w r
  obtain ⟨D,c,m⟩:=CmR.cells j fun v=>by
   subst v
   obtain ⟨l,rfl,c⟩:=j
   simp only[QH,cY] at h
   obtain ⟨o,p⟩:=Vf h
   exact c.oneCell p o fun q ⟨e,z⟩=>(r.cx.en q e z).oneCell
  have e:(execOp a.eval ⟨some d,.box T x,ty,pos,af,g⟩).run P w= .ok (.value (.pointer (some ⟨w.heap.size,0,none⟩))) (w.alloc (.cells D.toArray T)):=by
   simp only[execOp,Instr.box,newVar,newRow,c]
   simp[aw]
  unfold Oper.wp
  rw[e,Oper.upon_value]
  exact u _ _ (r.box t f i T m (Qkj h) (aD B))
end
def Ty.zero:(t:Ty)→t.Den
 | .int=>(0:Int)
 | .bool=>false
 | .str=>ByteArray.empty
 | .u8=>(0:UInt8)
 | .vl=>(none:Hdr)
 | .sl _ _=>[]
 | .pr a b=>(a.zero,b.zero)
def Ty.zeros:Ty→List Value
 | .int=>[.int .i64 0]
 | .bool=>[.bool false]
 | .str=>[.string ByteArray.empty]
 | .u8=>[.int .u8 0]
 | .vl=>[.slice none 0 0]
 | .sl _ _=>[.slice none 0 0]
 | .pr a b=>a.zeros++b.zeros
def Ty.zlv:Ty→List LV
 | .int=>[.dat .int (0:Int)]
 | .bool=>[.dat .bool false]
 | .str=>[.dat .str ByteArray.empty]
 | .u8=>[.dat .u8 (0:UInt8)]
 | .vl=>[.dat .vl (none:Hdr)]
 | .sl _ _=>[.val (.slice none 0 0)]
 | .pr a b=>a.zlv++b.zlv
def Z8:∀(t:Ty) (w:World),Own t w [] t.zeros t.zero
 | .int,_=>⟨rfl,rfl,by decide⟩
 | .bool,_=>⟨rfl,rfl⟩
 | .str,_=>⟨rfl,rfl,aL _⟩
 | .u8,_=>⟨rfl,rfl⟩
 | .vl,_=>⟨rfl,rfl⟩
 | .sl _ _,_=> .inl ⟨rfl,rfl,rfl⟩
 | .pr a b,w=>⟨[],[],a.zeros,b.zeros,rfl,rfl,Z8 a w,Z8 b w⟩
def Kl (al:Nat→Prop)(gh:Gh)(w:World):∀t:Ty,LVs al gh w t.zlv t.zeros
 | .int=>⟨_,[],rfl,Rd.leaves (t:= .int) (al:=al) (Own.rd (Z8 .int w) (by simp)) |>.one rfl,rfl⟩
 | .bool=>⟨_,[],rfl,Rd.leaves (t:= .bool) (al:=al) (Own.rd (Z8 .bool w) (by simp)) |>.one rfl,rfl⟩
 | .str=>⟨_,[],rfl,Rd.leaves (t:= .str) (al:=al) (Own.rd (Z8 .str w) (by simp)) |>.one rfl,rfl⟩
 | .u8=>⟨_,[],rfl,Rd.leaves (t:= .u8) (al:=al) (Own.rd (Z8 .u8 w) (by simp)) |>.one rfl,rfl⟩
 | .vl=>⟨_,[],rfl,Rd.leaves (t:= .vl) (al:=al) (Own.rd (Z8 .vl w) (by simp)) |>.one rfl,rfl⟩
 | .sl _ _=>⟨_,[],rfl,rfl,rfl⟩
 | .pr a b=>LVs.app (Kl al gh w a) (Kl al gh w b)
def Hj:∀t:Ty,QQ t.zlv=[]
 | .int=>rfl
 | .bool=>rfl
 | .str=>rfl
 | .u8=>rfl
 | .vl=>rfl
 | .sl _ _=>rfl
 | .pr a b=>by
  have:∀c e:List LV,QQ (c++e)=QQ c++QQ e:=by
   intro c e
   induction c with
   | nil=>rfl
   | cons l h f=>simp[QQ,f]
  simp[Ty.zlv,this,Hj a,Hj b]
section
variable {A:Amb}{P:Program}{s:St}{x y:Operand}{d:Nat}{T T' ty:TypeId}{pos:String}{af:Array Edge}{g:Option (Nat×Bool)}
def Wc {z:Value}{w:World}(h:zer P T=some z):(zeroValue T).run P w= .ok z w:=by
 unfold zer at h
 cases a:P.info? T with
 | none=>rw[a] at h;cases h
 | some i=>
  rw[a] at h
  have b:i.zero=some z:=h
  simp[zeroValue,typeInfo,a,b,aw]
def Qa1 (k:Nat)(t:Ty){z:Value}(l:zer P T=some z)(f:z.cells.toList=t.zeros)(j:Nat.blt d A.n=true)(b:Fresh s k)(c:A.k0≤k):Does A P ⟨some d,.alloc T,ty,pos,af,g⟩ s (s.new d k (.ptr k 0) (.box T t.zlv)):=
 fun a w K Q r h=>by
  obtain ⟨m,r⟩:=r
  have i:z.cells=t.zeros.toArray:=by rw[← f]
  have e:(execOp a.eval ⟨some d,.alloc T,ty,pos,af,g⟩).run P w= .ok (.value (.pointer (some ⟨w.heap.size,0,none⟩))) (w.alloc (.cells t.zeros.toArray T)):=by
   simp only[execOp,Instr.alloc,newVar,newRow,aw,Wc l,aF,i]
   simp
  unfold Oper.wp
  rw[e,Oper.upon_value]
  exact h _ _ (r.box k b c T (Kl _ _ _ t) (by rw[Hj];simp) (aD j))
def J7 {q off o f:Nat}(m:Evl A s x (.ptr q off))(k:fld P T f=some o)(i:(s.tab.ent q).isSome=true)(l:Nat.blt d A.n=true):Does A P ⟨some d,.fieldAddr T x f,ty,pos,af,g⟩ s (s.put d (lf (.ptr q (off+o)))):=
 Qk rfl l fun b a w r=>by
  obtain ⟨e,j⟩:=bq.1 i
  obtain ⟨g,c,h⟩:=m b a w r ⟨e,j⟩
  refine ⟨.pointer (some ⟨g,off+o,none⟩),?_,_,rfl,fun _=>⟨g,c,rfl⟩⟩
  simp only[execOp,h,aw,H1 k]
  simp
def QdK {t:Ty}{z:t.Den}{off o f:Nat}(q:Evl A s x (.elt t z off))(m:fld P T f=some o)(p:Nat.blt d A.n=true):Does A P ⟨some d,.fieldAddr T x f,ty,pos,af,g⟩ s (s.put d (lf (.elt t z (off+o)))):=
 Qk rfl p fun h a w r=>by
  obtain ⟨b,c,e,u,i,j,k,l⟩:=q h a w r
  refine ⟨.pointer (some ⟨b,c+(off+o),none⟩),?_,_,rfl,b,c,e,u,rfl,j,k,l⟩
  simp only[execOp,i,aw,H1 m]
  simp[bX]
def Zd {q b i j o f:Nat}(v:Evl A s x (.ept q b i j))(t:fld P T f=some o)(m:(s.tab.ent q).isSome=true)(u:Nat.blt d A.n=true):Does A P ⟨some d,.fieldAddr T x f,ty,pos,af,g⟩ s (s.put d (lf (.ept q b i (j+o)))):=
 Qk rfl u fun h a w r=>by
  obtain ⟨e,p⟩:=bq.1 m
  obtain ⟨g,n,c,k,l⟩:=v h a w r ⟨e,p⟩
  refine ⟨.pointer (some ⟨g,i*b+(j+o),none⟩),?_,_,rfl,fun _=>⟨g,n,c,k,rfl⟩⟩
  simp only[execOp,l,aw,H1 t]
  simp[bX]
def QcM {q off:Nat}(k:Evl A s x (.ptr q off))(h:(s.tab.ent q).isSome=true)(j:Nat.blt d A.n=true):Does A P ⟨some d,.nilCheck x,ty,pos,af,g⟩ s (s.put d (lf (.ptr q off))):=
 Qk rfl j fun b a w r=>by
  obtain ⟨e,i⟩:=bq.1 h
  obtain ⟨g,c,f⟩:=k b a w r ⟨e,i⟩
  refine ⟨.pointer (some ⟨g,off,none⟩),?_,_,rfl,fun _=>⟨g,c,rfl⟩⟩
  simp only[execOp,f]
  simp
def Qqy {q b i j:Nat}(p:Evl A s x (.ept q b i j))(l:(s.tab.ent q).isSome=true)(o:Nat.blt d A.n=true):Does A P ⟨some d,.nilCheck x,ty,pos,af,g⟩ s (s.put d (lf (.ept q b i j))):=
 Qk rfl o fun f a w r=>by
  obtain ⟨e,m⟩:=bq.1 l
  obtain ⟨g,n,c,h,k⟩:=p f a w r ⟨e,m⟩
  refine ⟨.pointer (some ⟨g,i*b+j,none⟩),?_,_,rfl,fun _=>⟨g,n,c,h,rfl⟩⟩
  simp only[execOp,k]
  simp
theorem UY {E:TypeId}{i:Int}{n a b o f:Nat}{h:Bool}{w:World}(c:P.underlying T=some (.slice E))(k:tsh P E=some (h,f))(h0:0≤i)(j:i<n):
 (Instr.indexAt T (.slice (some ⟨b,o,none⟩) n a) (.int .i64 i)).run P w= .ok (.pointer (some ⟨b,o+i.toNat*f,none⟩)) w:=by
 have e:P.elem T=E:=by simp[Program.elem,c]
 rw[run_indexAt_slice w T _ n a .i64 i (by rw[e];exact c),if_pos ⟨h0,j⟩,e,YD k]
 simp[Addr.add_lit]
theorem UN {E E':TypeId}{e:Ty}{l:List e.Den}{i:Int}{z:e.Den}{k:Bool}(G:Evl A s x (.dat (.sl E e) l))(H:Evl A s y (dI i))(C:P.underlying T=some (.slice E'))(u:tsh P E'=some (k,e.wd))(F:Nat.blt d A.n=true)
 (h0:0≤i) (hz:l[i.toNat]? =some z):Does A P ⟨some d,.indexAddr T x y,ty,pos,af,g⟩ s (s.put d (lf (.elt e z 0))):=
 Qk rfl F fun p a w r=>by
  have D:=H.i r
  obtain ⟨I,v,f⟩:=G p a w r
  obtain ⟨B,c,j,J,K⟩:=f.slv
  rw[j] at f
  obtain ⟨b,o,m,rfl,q,t⟩:=f.at_ hz
  have h:i<l.length:=by have:=(ae.1 hz).1;omega
  refine ⟨.pointer (some ⟨b,o+i.toNat*e.wd,none⟩),?_,_,rfl,b,o+i.toNat*e.wd,m,I,rfl,v,q,t⟩
  simp only[execOp,j,D,aw,UY C u h0 h]
  simp
theorem Qw {E E':TypeId}{e:Ty}{q:Nat}{l:List e.Den}{i:Int}{o:Bool}(D:Evl A s x (.ref q))(m:s.tab.ent q=some (.arr E e l))(F:Evl A s y (dI i))(v:P.underlying T=some (.slice E'))(t:tsh P E'=some (o,e.wd))(B:Nat.blt d A.n=true)
 (h0:0≤i) (h1:i<l.length):Does A P ⟨some d,.indexAddr T x y,ty,pos,af,g⟩ s (s.put d (lf (.ept q e.wd i.toNat 0))):=
 Qk rfl B fun c a w r=>by
  have z:=F.i r
  have C:a.eval x=c.h q:=D c a w r ⟨_,m⟩
  have u:Own (.sl E e) w (c.f q) [c.h q] l:=r.cx.en q _ m
  rcases u with ⟨_,_,h⟩|⟨b,j,p,fps,G,k,H,I,J,K,L⟩
  ·subst h;simp at h1;omega
  ·simp only[aN,and_true] at k
   refine ⟨.pointer (some ⟨b,0+i.toNat*e.wd,none⟩),?_,_,rfl,fun _=>⟨b,l.length,j,k,by simp⟩⟩
   simp only[execOp,C,k,z,aw,UY v t h0 h1]
   simp
def Vv (a b:List LV):QQ (a++b)=QQ a++QQ b:=by
 induction a with
 | nil=>rfl
 | cons l e c=>simp[QQ,c]
def Qji {ls:List LV}(n:Nat):∀q∈QQ (ls.take n),q∈QQ ls:=by
 intro q a
 rw[← bB n ls,Vv]
 exact aU _ a
def Qjh {ls:List LV}(n:Nat):∀q∈QQ (ls.drop n),q∈QQ ls:=by
 intro q a
 rw[← bB n ls,Vv]
 exact bd _ a
def LVs.nth {al:Nat→Prop}{gh:Gh}{w:World}{ls:List LV}{vs:List Value}(h:LVs al gh w ls vs){i:Nat}{l:LV}(a:ls[i]? =some l):∃v,vs[i]? =some v∧LVR al gh w l v:=LVs.get h a
def Qa2 {q off n:Nat}{E:TypeId}{cs:List LV}{l:LV}(B:Evl A s x (.ptr q off))(c:s.tab.ent q=some (.box E cs))(p:tsh P T=some (false,n))(u:cs[off]? =some l)(z:Nat.blt d A.n=true):
 Does A P ⟨some d,.load T x,ty,pos,af,g⟩ s (s.put d (lf l)):=
 Qk rfl z fun f a w r=>by
  obtain ⟨g,h,i⟩:=B f a w r ⟨_,c⟩
  obtain ⟨C,e,b,D,j,k⟩:=r.cx.en q _ c
  rw[h] at b
  cases b
  obtain ⟨v,m,o⟩:=k.nth u
  refine ⟨v,?_,_,rfl,o⟩
  have t:w.cell? ⟨g,off,none⟩=some v:=by simp only[World.cell?,j];simpa using m
  simp only[execOp,i,Instr.loadAt,Instr.sureAddr,aw,be,aF,Yl p _ v t]
def J8 {q off n:Nat}{E:TypeId}{cs:List LV}(D:Evl A s x (.ptr q off))(i:s.tab.ent q=some (.box E cs))(t:tsh P T=some (true,n))(v:Nat.ble (off+n) cs.length=true)(B:Nat.blt d A.n=true):
 Does A P ⟨some d,.load T x,ty,pos,af,g⟩ s (s.put d (ag ((cs.drop off).take n))):=
 Qk rfl B fun k a w r=>by
  obtain ⟨g,l,m⟩:=D k a w r ⟨_,i⟩
  obtain ⟨F,b,f,G,o,h⟩:=r.cx.en q _ i
  rw[l] at f
  cases f
  have p:=(h.drop off).take n
  have z:=aD v
  have e:=h.len
  refine ⟨.agg ((b.toList.drop off).take n).toArray,?_,_,rfl,p⟩
  have C:=Wl (w:=w) t g off ((b.toList.drop off).take n) (by rw[au,aX,e];omega) fun j u c=>by
   rw[bf] at c
   split at c
   ·rw[dy] at c
    simp only[World.cell?,o]
    simpa using c
   ·cases c
  simp only[execOp,m,Instr.loadAt,Instr.sureAddr,aw,be,aF,C]
def Qfc {t:Ty}{z:t.Den}{off n:Nat}{l:LV}(B:Evl A s x (.elt t z off))(m:tsh P T=some (false,n))(q:(leaves t z)[off]? =some l)(u:Nat.blt d A.n=true):
 Does A P ⟨some d,.load T x,ty,pos,af,g⟩ s (s.put d (lf l)):=
 Qk rfl u fun c a w r=>by
  obtain ⟨b,o,D,C,f,e,h,i⟩:=B c a w r
  obtain ⟨v,j,k⟩:=(Rd.leaves (al:=s.tab.al) (gh:=c) (w:=w) ⟨C,e,h⟩).nth q
  refine ⟨v,?_,_,rfl,k⟩
  have p:w.cell? ⟨b,o+off,none⟩=some v:=(e _ _ (i off v j)).2
  simp only[execOp,f,Instr.loadAt,Instr.sureAddr,aw,be,aF,Yl m _ v p]
def HO:∀(t:Ty) (z:t.Den),QQ (leaves t z)=[]
 | .int,_=>rfl
 | .bool,_=>rfl
 | .str,_=>rfl
 | .u8,_=>rfl
 | .vl,_=>rfl
 | .sl _ _,_=>rfl
 | .pr a b,z=>by simp[leaves,Vv,HO a,HO b]
def QdM {t:Ty}{z:t.Den}{off n:Nat}(E:Evl A s x (.elt t z off))(q:tsh P T=some (true,n))(v:Nat.ble (off+n) t.wd=true)(C:Nat.blt d A.n=true):
 Does A P ⟨some d,.load T x,ty,pos,af,g⟩ s (s.put d (ag (((leaves t z).drop off).take n))):=
 Qk rfl C fun e a w r=>by
  obtain ⟨b,o,h,F,l,i,k,m⟩:=E e a w r
  have p:=((Rd.leaves (al:=s.tab.al) (gh:=e) (w:=w) ⟨F,i,k⟩).drop off).take n
  have B:=aD v
  have f:=k.len
  refine ⟨.agg ((h.drop off).take n).toArray,?_,_,rfl,p⟩
  ·have D:=Wl (w:=w) q b (o+off) ((h.drop off).take n) (by rw[au,aX,f];omega) fun j u c=>by
    rw[bf] at c
    split at c
    ·rw[dy] at c
     rw[bX]
     exact (i _ _ (m (off+j) u c)).2
    ·cases c
   simp only[execOp,l,Instr.loadAt,Instr.sureAddr,aw,be,aF,D]
end
end Go.Proofs.YtjfpbcmfbnnooaaGreat
