/- Walks over abstract states: what speaks against an implementation, both sides. -/
import Derived.Test.YtjfpbcmfbnnooaaGreatGEa
import Derived.Test.YtjfpbcmfbnnooaaGreatGUa
import Derived.Test.YtjfpbcmfbnnooaaGreatGFb
set_option linter.unusedSimpArgs false
set_option linter.unusedVariables false
set_option linter.unusedSectionVars false
namespace Go.Proofs.YtjfpbcmfbnnooaaGreat
open Go.RowKit
set_option maxRecDepth 100000
set_option maxHeartbeats 4000000
def rg {β:Type}(f:Nat→Option β)(m:Nat):List β:=(List.range m).filterMap f
def rf {β:Type}(f:Nat→List β)(m:Nat):List β:=(List.range m).flatMap f
section
variable {β:Type}{f:Nat→Option β}{g:Nat→List β}{m n i j k b:Nat}{y:β}{B:List β}
theorem Yn (h:f m=some y):B++rg f m++[y]=B++rg f (m+1):=by
 unfold rg;rw[bO,List.filterMap_append];simp[h]
theorem ZJ (h:f m=none):rg f m=rg f (m+1):=by
 unfold rg;rw[bO,List.filterMap_append];simp[h]
theorem J6:(rg f m).length≤m:=bh (List.length_filterMap_le ..) (by simp)
theorem QsZ (h:∀j,j<m→f j=none):rg f m=[]:=by
 grind [rg,List.filterMap_eq_nil_iff]
theorem Hz:rf g i++g i=rf g (i+1):=by unfold rf;rw[bO,cB];simp
theorem QsX (h:∀i,(g i).length≤b):(rf g n).length≤n*b:=by
 induction n with
 | zero=>simp[rf]
 | succ n d=>rw[← Hz,ah,Nat.succ_mul];have:=h n;omega
theorem QsY:rg f m=[]↔∀j,j<m→f j=none:=by unfold rg;rw[List.filterMap_eq_nil_iff];simp
theorem QxP:rf g m=[]↔∀j,j<m→g j=[]:=by unfold rf;rw[List.flatMap_eq_nil_iff];simp
end
def arA (as_:List DAr)(j:Nat):DAr:=(as_[j]?).getD (0,0,false,0)
theorem JE {as_:List DAr}{j:Nat}{a:DAr}(h:as_[j]? =some a):arA as_ j=a:=by unfold arA;rw[h];rfl
def Qdv (as_:List DAr)(i j:Nat):Option (List Int):=if i<j∧0≤(arA as_ i).2.1∧(arA as_ j).1=(arA as_ i).1∧(arA as_ j).2.1=(arA as_ i).2.1∧(arA as_ j).2.2.2≠(arA as_ i).2.2.2 then some [(i:Int),(j:Int)] else none
def Hg (as_:List DAr)(i:Nat):List (List Int):=rf (fun i=>rg (Qdv as_ i) as_.length) i
section
variable {as_:List DAr}{a b:DAr}{i j k m:Nat}{c:DSg}{s q:Int}
theorem QtB (r:as_[i]? =some a)(hb:as_[j]? =some b)(h:i<j)(h0:0≤a.2.1)(d:b.1=a.1)(e:b.2.1=a.2.1)(o:¬b.2.2.2=a.2.2.2):Qdv as_ i j=some [(i:Int),(j:Int)]:=by
 unfold Qdv;rw[JE r,JE hb,if_pos ⟨h,h0,d,e,o⟩]
theorem UE (d:as_[i]? =some a)(hb:as_[j]? =some b)(h:¬(0≤a.2.1∧b.1=a.1∧b.2.1=a.2.1∧¬b.2.2.2=a.2.2.2)):Qdv as_ i j=none:=by
 unfold Qdv;rw[JE d,JE hb,if_neg fun g=>h g.2]
theorem QhS:rg (Qdv as_ i) (i+1)=[]:=QsZ fun j d=>if_neg fun g=>by omega
theorem QvP:(Hg as_ i).length≤i*as_.length:=QsX fun _=>J6
theorem QoJ (h:as_.length≤4000)(hi:i≤as_.length):(Hg as_ i).length≤16000000:=bh QvP (bh (cE (bh hi h) h) (by decide))
def JG (c:DSg)(k s:Int)(a:DAr):Bool:= !decide (a.2.1=s)&&(!QW c a.2.2.2 s&& !(XN c s&&XN c a.2.1))
def Qjv (c:DSg)(k s:Int)(n:Nat):Option (Int×Int×Int):=if (arA c.2.2 n).1=k∧JG c k s (arA c.2.2 n)=true then some (k,s,(n:Int)) else none
def Qh8 (c:DSg)(ts:List Int)(k s:Int)(i:Nat):Option (Int×Int×Int):=match ts[i]? with
 | some q=>if JG c k s (arA c.2.2 q.toNat)=true then some (k,s,q) else none
 | none=>none
def nxA (c:DSg)(k:Nat):List Int:=((Zn c.2.1.length (ixE c.2.2))[k]?).getD []
def VK (c:DSg)(r:Nat→Nat→List (Int×Int×Int))(k j:Nat):List (Int×Int×Int):=rf (fun s=>if QW c (k:Int) (s:Int)=true then r k s else []) j
def rwS (c:DSg)(k s:Nat):List (Int×Int×Int):=rg (Qjv c k s) c.2.2.length
def rwI (c:DSg)(k s:Nat):List (Int×Int×Int):=rg (Qh8 c (nxA c k) k s) (nxA c k).length
def Wx (c:DSg)(r:Nat→Nat→List (Int×Int×Int))(n:Nat):List (Int×Int×Int):=rf (fun k=>VK c r k c.1.length) n
theorem YL (d:c.2.2[m]? =some a)(h:a.1=q)(hb:JG c q s a=true):Qjv c q s m=some (q,s,(m:Int)):=by unfold Qjv;rw[JE d,if_pos ⟨h,hb⟩]
theorem ZB (d:c.2.2[m]? =some a)(h:¬(a.1=q∧JG c q s a=true)):Qjv c q s m=none:=by unfold Qjv;rw[JE d,if_neg h]
theorem Xc {ts:List Int}{t:Int}(e:ts[m]? =some t)(d:c.2.2[t.toNat]? =some a)(hb:JG c q s a=true):Qh8 c ts q s m=some (q,s,t):=by
 grind [Qh8,JE]
theorem YH {ts:List Int}{t:Int}(e:ts[m]? =some t)(d:c.2.2[t.toNat]? =some a)(hb:JG c q s a=false):Qh8 c ts q s m=none:=by
 grind [Qh8,JE]
theorem VL (h:a.2.1=s):JG c q s a=false:=by unfold JG;rw[aN h];rfl
theorem VM (h:QW c a.2.2.2 s=true):JG c q s a=false:=by unfold JG;rw[h];simp
theorem VN (h:XN c s=true)(d:XN c a.2.1=true):JG c q s a=false:=by unfold JG;rw[h,d];simp
theorem VO (h:¬a.2.1=s)(d:QW c a.2.2.2 s=false)(e:XN c s=false):JG c q s a=true:=by unfold JG;rw[ay h,d,e];rfl
theorem VP (h:¬a.2.1=s)(d:QW c a.2.2.2 s=false)(e:XN c a.2.1=false):JG c q s a=true:=by unfold JG;rw[ay h,d,e];simp
theorem Qvx {s k:Nat}:(rwS c k s).length≤c.2.2.length:=J6
theorem QmL {ts:List Int}(h:(Zn c.2.1.length (ixE c.2.2))[k]? =some ts):nxA c k=ts:=by unfold nxA;rw[h];rfl
theorem Qvw {s k:Nat}(r:k<c.2.1.length):(rwI c k s).length≤c.2.2.length:=by
 obtain ⟨e,d⟩:∃e,(Zn c.2.1.length (ixE c.2.2))[k]? =some e:=⟨_,ao (by rw[XA];exact r)⟩
 have h:(rwI c k s).length≤(nxA c k).length:=J6
 have o:=Ko d
 rw[Qbz] at o
 rw[QmL d] at h
 omega
theorem Qjw {r:Nat→Nat→List (Int×Int×Int)}(h:∀s,(r k s).length≤c.2.2.length):(VK c r k j).length≤j*c.2.2.length:=QsX fun s=>by
 split
 ·exact h s
 ·exact aL _
theorem Qrf {r:Nat→Nat→List (Int×Int×Int)}{n:Nat}(h:∀k s,k<n→(r k s).length≤c.2.2.length):(Wx c r n).length≤n*(c.1.length*c.2.2.length):=by
 induction n with
 | zero=>simp[Wx,rf]
 | succ n d=>
  grind [VK,Qjw,Wx,Hz,List.length_append,Nat.succ_mul]
theorem Qnl (e:SgW c){r:Nat→Nat→List (Int×Int×Int)}{n:Nat}(D:n≤c.2.1.length)(C:j≤c.1.length)(h:∀k s,k<c.2.1.length→(r k s).length≤c.2.2.length):(Wx c r n).length≤9600000∧(k<c.2.1.length→(VK c r k j).length≤32000):=by
 have u:=e.sig8;have v:=e.some_;have d:=e.few
 have w:=Qrf (c:=c) (r:=r) (n:=n) fun k s o=>h k s (by omega)
 have t:c.1.length*c.2.2.length≤8*4000:=cE u d
 have x:n*(c.1.length*c.2.2.length)≤300*(8*4000):=cE (by omega) t
 refine ⟨by omega,fun o=> ?_⟩
 have z:(VK c r k j).length≤j*c.2.2.length:=Qjw fun s=>h k s o
 have A:j*c.2.2.length≤8*4000:=cE (by omega) d
 omega
theorem QgN {r:Nat→Nat→List (Int×Int×Int)}(h:c.1.length≤j)(d:j≤c.1.length):Wx c r k++VK c r k j=Wx c r (k+1):=by
 obtain rfl:j=c.1.length:=by omega
 exact Hz
theorem QdI {r:Nat→Nat→List (Int×Int×Int)}{L:List (Int×Int×Int)}(h:QW c (k:Int) (j:Int)=false):L++VK c r k j=L++VK c r k (j+1):=by
 grind [VK,QW,Hz]
theorem Qjx {r:Nat→Nat→List (Int×Int×Int)}{L:List (Int×Int×Int)}(h:QW c (k:Int) (j:Int)=true):L++VK c r k j++r k j=L++VK c r k (j+1):=by
 grind [VK,QW,Hz,List.append_assoc]
theorem QgP {L:List (Int×Int×Int)}{i:Nat}(h:QW c (k:Int) (j:Int)=true)(hi:c.2.2.length≤i)(d:i≤c.2.2.length):L++VK c (rwS c) k j++rg (Qjv c k j) i=L++VK c (rwS c) k (j+1):=by
 grind [Qjx,rwS]
theorem QgO {L:List (Int×Int×Int)}{i:Nat}{ts:List Int}(h:QW c (k:Int) (j:Int)=true)(e:(Zn c.2.1.length (ixE c.2.2))[k]? =some ts)(hi:ts.length≤i)(d:i≤ts.length):L++VK c (rwI c) k j++rg (Qh8 c ts k j) i=L++VK c (rwI c) k (j+1):=by
 grind [rg,Qh8,rwI,QmL,Qjx]
theorem Qn3 (e:∀a∈c.2.2,InR c.2.1.length a)(h0:0≤q∧q<(c.2.1.length:Int))(o:0≤s){y:Int}(r:(Xz c.2.1.length c.2.2)[q.toNat]? =some y):decide ((((y / 2 ^ (2*s).toNat).toNat &&& (3:Int).toNat:Nat):Int)=0)= !QW c q s:=by
 have h:=J1 (c:=c) (k:=q.toNat) (s:=s) (fun a d=>(e a d).1.1) (by omega) o
 rw[show ((q.toNat:Nat):Int)=q by omega] at h
 rw[QbB r] at h
 exact h
theorem Jg (d:∀a∈c.2.2,InR c.2.1.length a)(h0:0≤q∧q<(c.2.1.length:Int))(e:0≤s){y:Int}(o:(Xz c.2.1.length c.2.2)[q.toNat]? =some y)(h:(((y / 2 ^ (2*s).toNat).toNat &&& (3:Int).toNat:Nat):Int)=0):QW c q s=false:=by
 grind [Qn3]
theorem QfQ (d:∀a∈c.2.2,InR c.2.1.length a)(h0:0≤q∧q<(c.2.1.length:Int))(e:0≤s){y:Int}(o:(Xz c.2.1.length c.2.2)[q.toNat]? =some y)(h:¬(((y / 2 ^ (2*s).toNat).toNat &&& (3:Int).toNat:Nat):Int)=0):QW c q s=true:=by
 grind [Qn3]
theorem Qs1 {k s:Nat}(A:∀a∈c.2.2,InR c.2.1.length a)(z:k<c.2.1.length):rwI c k s=[]↔rwS c k s=[]:=by
 obtain ⟨o,e⟩:∃o,(Zn c.2.1.length (ixE c.2.2))[k]? =some o:=⟨_,ao (by rw[XA];exact z)⟩
 have w:∀x,x∈o↔_:=fun x=>Qht (x:=x) (fun a d=>(A a d).1.1) e
 unfold rwI rwS
 rw[QmL e,QsY,QsY]
 constructor
 ·intro h m v
  have d:c.2.2[m]? =some c.2.2[m]:=ao v
  by_cases t:c.2.2[m].1=(k:Int)
  ·obtain ⟨i,r⟩:=aK.1 ((w (m:Int)).2 ⟨m,_,d,t,rfl⟩)
   have u:=h i (ai.1 r).1
   refine ZB d fun g=> ?_
   rw[Xc r (by simp) g.2] at u
   cases u
  ·exact ZB d fun g=>t g.1
 ·intro h i r
  have C:o[i]? =some o[i]:=ao r
  obtain ⟨j,a,d,t,u⟩:=(w _).1 (ae C)
  grind [List.getElem?_eq_some_iff,YH,JG,YL]
theorem Qjy (d:∀a∈c.2.2,InR c.2.1.length a):decide (0<((Wx c (rwI c) c.2.1.length).length:Int))=decide (0<((Wx c (rwS c) c.2.1.length).length:Int)):=by
 have h:Wx c (rwI c) c.2.1.length=[]↔Wx c (rwS c) c.2.1.length=[]:=by
  simp_all [Wx,VK,QxP,Qs1]
 have e:∀l:List (Int×Int×Int),decide (0<(l.length:Int))= !decide (l=[]):=fun l=>by cases l <;> simp
 rw[e,e]
 congr 1
 exact bF.2 h
end
def Qim (c:DSg):Bool:=c.2.2.any fun a=>decide (a.2.1= -1)
abbrev YY:ByteArray:=⟨#[109,97,100,101]⟩
def YG (c:DSg):ByteArray:=if Qim c=true then ⟨#[104,105,100,100,101,110]⟩ else if 0<((Hg c.2.2 c.2.2.length).length:Int) then ⟨#[116,119,111,32,119,97,121,115]⟩ else if 0<((Wx c (rwS c) c.2.1.length).length:Int) then ⟨#[98,114,101,97,107]⟩ else if 0<((QcS c).length:Int) then ⟨#[99,111,110,102,108,105,99,116]⟩ else YY
section
variable {c:DSg}{as_:List DAr}{a:DAr}{i j k:Nat}{m s q:Int}{l:List Int}{p:List Int}
theorem QAi (h:Qim c=true):(⟨#[104,105,100,100,101,110]⟩:ByteArray)=YG c:=by unfold YG;rw[if_pos h]
theorem QAj (h:Qim c=false)(d:0<((Hg c.2.2 c.2.2.length).length:Int)):(⟨#[116,119,111,32,119,97,121,115]⟩:ByteArray)=YG c:=by unfold YG;rw[if_neg (by rw[h];decide),if_pos d]
theorem QAk (h:Qim c=false)(d:¬0<((Hg c.2.2 c.2.2.length).length:Int))(e:0<((Wx c (rwS c) c.2.1.length).length:Int)):(⟨#[98,114,101,97,107]⟩:ByteArray)=YG c:=by
 unfold YG;rw[if_neg (by rw[h];decide),if_neg d,if_pos e]
theorem QAl (h:Qim c=false)(d:¬0<((Hg c.2.2 c.2.2.length).length:Int))(e:¬0<((Wx c (rwS c) c.2.1.length).length:Int))(o:0<((QcS c).length:Int)):(⟨#[99,111,110,102,108,105,99,116]⟩:ByteArray)=YG c:=by
 grind [YG]
theorem QAm (h:Qim c=false)(d:¬0<((Hg c.2.2 c.2.2.length).length:Int))(e:¬0<((Wx c (rwS c) c.2.1.length).length:Int))(o:¬0<((QcS c).length:Int)):YY=YG c:=by
 grind [YG]
theorem QwB (d:∀a∈c.2.2,InR c.2.1.length a)(h:0<((Wx c (rwI c) c.2.1.length).length:Int)):0<((Wx c (rwS c) c.2.1.length).length:Int):=by
 grind [Qjy]
theorem Qrg (d:∀a∈c.2.2,InR c.2.1.length a)(h:¬0<((Wx c (rwI c) c.2.1.length).length:Int)):¬0<((Wx c (rwS c) c.2.1.length).length:Int):=by
 have:=Qjy d;rw[ay h] at this;exact aa this.symm
theorem Qu2 (d:c.2.2[k]? =some a)(h:a.2.1<0)(e: -1≤a.2.1):true=Qim c:=(bu.2 ⟨a,ae d,aN (by omega)⟩).symm
theorem Qxe (h:∀j,j<k→∀a,c.2.2[j]? =some a→¬a.2.1<0)(t:c.2.2.length≤k):false=Qim c:=(cr.2 fun a e=>by
 obtain ⟨j,d⟩:=aK.1 e
 have o:=(ai.1 d).1
 have r:=h j (by omega) a d
 simp only[aU]
 omega).symm
theorem QmG {n:Int}{l:Int×Bool}(h:KD n l): -1≤l.1:=by
 rcases h with h|h <;> omega
theorem Qgl (d:∀a∈as_,-1≤a.2.1)(e:as_[k]? =some a): -1≤a.2.1:=d a (ae e)
theorem QtC {β:Type}{B:List β}{f:Nat→Option β}{y:β}{out:List β}(h:0≤m)(e:out=B++rg f m.toNat)(d:f m.toNat=some y):out++[y]=B++rg f (m+1).toNat:=by
 rw[show (m+1).toNat=m.toNat+1 by omega,e];exact Yn d
theorem Qc2 {β:Type}{B:List β}{f:Nat→Option β}{out:List β}(h:0≤m)(e:out=B++rg f m.toNat)(d:f m.toNat=none):out=B++rg f (m+1).toNat:=by
 rw[show (m+1).toNat=m.toNat+1 by omega,e,ZJ d]
theorem Qtz (d:m≤(as_.length:Int))(e:¬m<(as_.length:Int)):Hg as_ i++rg (Qdv as_ i) m.toNat=Hg as_ (i+1):=by
 rw[show m.toNat=as_.length by omega];exact Hz
theorem QtA {b:DAr}(d:0≤m)(t:as_[i]? =some a)(hb:as_[m.toNat]? =some b)(h:(i:Int)<m)(h0:0≤a.2.1)(e:b.1=a.1)(o:b.2.1=a.2.1)(r:¬b.2.2.2=a.2.2.2):Qdv as_ i m.toNat=some [(i:Int),m]:=by
 grind [QtB]
theorem Qhx (d:k<c.1.length)(h:XN c (k:Int)=false):QD c.1 k++[(k:Int)]=QD c.1 (k+1):=by
 have e:c.1[k]? =some c.1[k]:=ao d
 grind [QcA,QfE]
theorem Qkb (d:k<c.1.length)(h:XN c (k:Int)=true):QD c.1 k=QD c.1 (k+1):=by
 have e:c.1[k]? =some c.1[k]:=ao d
 grind [QfV,QfE]
theorem Qq0 {α:Type}{l:List α}{f:α→Bool}{x:α}(d:l[k]? =some x)(h:(l.take k).any f=true):true=(l.take (k+1)).any f:=by rw[QE d,List.any_append,h];rfl
theorem QqZ {α:Type}{l:List α}{f:α→Bool}{x:α}(d:l[k]? =some x)(h:(l.take k).any f=false):f x=(l.take (k+1)).any f:=by rw[QE d,List.any_append,h];simp
theorem Qik {α:Type}{l:List α}{f:α→Bool}{x:α}(d:l[k]? =some x)(h:f x=true):(l.take k).filter f++[x]=(l.take (k+1)).filter f:=by rw[QE d,bE];simp[h]
theorem Qmo {α:Type}{l:List α}{f:α→Bool}{x:α}(d:l[k]? =some x)(h:f x=false):(l.take k).filter f=(l.take (k+1)).filter f:=by rw[QE d,bE];simp[h]
def Qo3 (c:DSg)(p:List Int):Bool:=QuE c (mAt p 0).toNat (mAt p 1).toNat
theorem QnB (h:p=[(i:Int),(j:Int)]):Qo3 c p=QuE c i j:=by subst h;rfl
theorem Qbf {b:Bool}(h:p=[(i:Int),(j:Int)])(e:(QD c.1 c.1.length).length≤k)(d:((QD c.1 c.1.length).take k).any (fun s=> !(QW c (i:Int) s==QW c (j:Int) s))=b):Qo3 c p=b:=by
 rw[ZD e] at d
 rw[QnB h];exact d
theorem Qrs:(Yv c (fun _ _=>true) c.2.1.length).filter (Qo3 c)=QcS c:=by
 rw[QcQ]
 exact Qeq fun i j _ _=>by rw[QnB rfl];simp
theorem Qvo (h:(Yv c (fun _ _=>true) c.2.1.length)[k]? =some p):∃i j:Nat,p=[(i:Int),(j:Int)]:=by
 have h:=ae h
 grind [Yv,Qkn]
end
theorem HQ (a:QuF)(q:Int)(sig:Int):FC Tryz.prog 151 [(true,[dI a.1,dI a.2.1,dB a.2.2.1,dI a.2.2.2]),(false,[.ptr 0 0]),(false,[.ptr 1 0])] [bx 0 3 [dI q],bx 1 3 [dI sig]] 2 (Is (lB (decide (a.1=q∧a.2.1=sig))) [bx 0 3 [dI q],bx 1 3 [dI sig]]):=by
 refine Qj Tryz.func151 rfl rfl Tryz.ntmps151 fun x h w o z v u=> ?_
 refine acG 0 0 fun _=> ?_
 refine acG 0 1 fun _=> ?_
 refine acG 0 3 fun _=> ?_
 refine w_ ?_
 refine xbx 2 ?_
 refine w6 ?_
 refine alI 7 fun _=> ?_
 refine w2 ?_
 cases d:(decide (a.1=q))
 have e:=aa d
 refine w8 ?_
 have r:(false:Bool)=(decide (a.1=q∧a.2.1=sig)):=by
  (simp_all;done)
 exact fi_ [] h ⟨rfl,rfl,trivial⟩ (h0:=by rw[← r] <;> rfl)
 have e:=ab d
 refine w8 ?_
 have t:(decide (a.2.1=sig):Bool)=(decide (a.1=q∧a.2.1=sig)):=by
  (simp_all;done)
 exact fi_ [] h ⟨rfl,rfl,trivial⟩ (h0:=by rw[t] <;> rfl)
theorem JJ (l:QrD)(q:Int)(sig:Int):FC Tryz.prog 174 [(false,[.dat QA l]),(false,[.clo 151 [0,1]])] [bx 0 3 [dI q],bx 1 3 [dI sig]] 2 (Is (lI (Zf (fun a:DAr=>decide (a.1=q∧a.2.1=sig)) l)) [bx 0 3 [dI q],bx 1 3 [dI sig]]):=by
 refine Qj Tryz.func174 rfl rfl Tryz.ntmps174 fun E v D w F C A=> ?_
 refine w6 ?_
 refine alL 6 fun _=> ?_
 refine w4 ?_
 refine lpK l.length (fun k=>NoneTo (fun a:DAr=>decide (a.1=q∧a.2.1=sig)) l k) (fun k=>⟨[(0,lf (.dat QA l)),(1,lf (.clo 151 [0,1])),(7,lI (l.length:Int)),(8,lI (k:Int))],[bx 0 3 [dI q],bx 1 3 [dI sig]]⟩) (NoneTo.zero) ?_ fun k _ d=> ?_
 exact wo []
 refine w4 ?_
 cases h:(decide ((k:Int)<(l.length:Int)))
 have o:=aa h
 refine w7 ?_
 have x:((-1):Int)=(Zf (fun a:DAr=>decide (a.1=q∧a.2.1=sig)) l):=by
  first|exact (d.no (by omega)).symm
 exact fi_ [] v ⟨rfl,rfl,trivial⟩ (h0:=by rw[← x] <;> rfl)
 have o:=ab h
 refine w12 ?_
 obtain ⟨e,u⟩:=gx l k
 refine w2 ?_
 refine lc (Q3 (args0:=[(true,[dI e.1,dI e.2.1,dB e.2.2.1,dI e.2.2.2])]) (caps:=[0,1]) 2 [(0,0),(1,1)] (HQ e q sig) Qln rfl (Qa rfl) rfl rfl ⟨_,_,rfl,(Qn rfl),rfl⟩ ⟨rfl,rfl,trivial⟩ rfl ⟨trivial,trivial,trivial⟩ (nlr rfl)) ?_
 refine w_ ?_
 cases r:(decide (e.1=q∧e.2.1=sig))
 have t:=aa r
 refine w6 ?_
 refine Qd ?_
 refine lK_ (d.step u ‹_›) ?_
 exact wo []
 have t:=ab r
 refine w6 ?_
 have z:((k:Int):Int)=(Zf (fun a:DAr=>decide (a.1=q∧a.2.1=sig)) l):=by
  exact (d.at u ‹_›).symm
 exact fi_ [] v ⟨rfl,rfl,trivial⟩ (h0:=by rw[z] <;> rfl)
theorem UY (l:QrD)(q:Int)(sig:Int):FC Tryz.prog 95 [(false,[.dat QA l]),(false,[.clo 151 [0,1]])] [bx 0 3 [dI q],bx 1 3 [dI sig]] 2 (Is (lB (l.any (fun a:DAr=>decide (a.1=q∧a.2.1=sig)))) [bx 0 3 [dI q],bx 1 3 [dI sig]]):=by
 refine Qj Tryz.func95 rfl rfl Tryz.ntmps95 fun u r t d v o h=> ?_
 refine w6 ?_
 refine lc (dP 2 [] (JJ l q sig) QeS) ?_
 refine w4 ?_
 have e:(decide (0≤(Zf (fun a:DAr=>decide (a.1=q∧a.2.1=sig)) l)):Bool)=(l.any (fun a:DAr=>decide (a.1=q∧a.2.1=sig))):=by
  exact Xm _ _
 exact fi_ [] r ⟨rfl,rfl,trivial⟩ (h0:=by rw[e] <;> rfl)
theorem Y4 (c:ZM)(q:Int)(sig:Int):FC Tryz.prog 71 [(true,[.dat Ql c.1,.dat Qb c.2.1,.dat QA c.2.2]),(false,[dI q]),(false,[dI sig])] [] 0 (QK (lB (QW c q sig))):=by
 refine Qj Tryz.func71 rfl rfl Tryz.ntmps71 fun t o r d u h e=> ?_
 refine acI 1 fun _=> ?_
 refine acI 2 fun _=> ?_
 refine w_ ?_
 refine xbx 0 ?_
 refine xbx 1 ?_
 refine xbx 2 ?_
 refine w5 ?_
 refine lc (Q1 ⟨_,_,rfl,(Qa rfl),rfl,⟨_,_,rfl,(Qa rfl),rfl,rfl⟩⟩ rfl) ?_
 refine lc (dP 3 [(0,1),(1,2)] (UY c.2.2 q sig) Qg9) ?_
 refine w2 ?_
 refine Qe<|fqB o ?_
 rfl
theorem Qda (c:ZM)(V:c.2.2.length≤4000)(N:∀a∈c.2.2,-1≤a.2.1):FC Tryz.prog 97 [(true,[.dat Ql c.1,.dat Qb c.2.1,.dat QA c.2.2])] [] 0 (Xv 62 Qs (Hg c.2.2 c.2.2.length)):=by
 refine Qj Tryz.func97 rfl rfl Tryz.ntmps97 fun Y T X Q Z S R=> ?_
 refine w_ ?_
 refine xbx 0 ?_
 refine w3 ?_
 refine lc (dBs 1 (e:=Qs) UU) ?_
 refine w6 ?_
 refine alL 10 fun _=> ?_
 refine w4 ?_
 refine lp0 c.2.2.length (fun i=>⟨[(1,lP 0 0),(2,lf (.val (.slice none 0 0))),(3,lR 2),(10,lf (.dat QA c.2.2)),(11,lI (c.2.2.length:Int)),(12,lI (i:Int))],[bx 0 28 [.dat Ql c.1,.dat Qb c.2.1,.dat QA c.2.2],ar 2 62 Qs (Hg c.2.2 i)]⟩) ?_ fun i _=> ?_
 exact wp [(2,1)] ⟨rfl,(Qm (rfl)),trivial⟩
 have K:=QoJ (i:=i) V
 refine w4 ?_
 cases F:(decide ((i:Int)<(c.2.2.length:Int)))
 have G:=aa F
 refine w7 ?_
 refine Qe<|fo_ T ?_
 (congr 1;omega)
 have G:=ab F
 refine w6 ?_
 obtain ⟨h,J⟩:=gx c.2.2 i
 have r:=J
 have L:=Qgl N J
 refine w2 ?_
 refine lc (xal 3 Yq YJ) ?_
 refine w9 ?_
 refine Qu (fun O P=>∃(m:Int) (d:List (List Int)),O=((c.2.2.length:Int) - m).toNat∧((i:Int)+1≤m∧m≤(c.2.2.length:Int))∧(d=Hg c.2.2 i++rg (Qdv c.2.2 i) m.toNat)∧P=⟨[(1,lP 0 0),(2,lf (.val (.slice none 0 0))),(3,lR 4),(4,lI (i:Int)),(5,lP 3 0),(6,lI m),(10,lf (.dat QA c.2.2)),(11,lI (c.2.2.length:Int)),(12,lI (i:Int)),(13,lB true),(14,lI (i:Int)),(15,lf (.elt Yq h 0)),(16,ag [dI h.1,dI h.2.1,dB h.2.2.1,dI h.2.2.2]),(17,lI (i:Int)),(18,lI ((i:Int)+1))],[bx 0 28 [.dat Ql c.1,.dat Qb c.2.1,.dat QA c.2.2],bx 3 139 [dI h.1,dI h.2.1,dB h.2.2.1,dI h.2.2.2],ar 4 62 Qs d]⟩) ⟨(i:Int)+1,Hg c.2.2 i,rfl,(by omega),(by rw[show ((i:Int)+1).toNat=i+1 by omega,QhS,br]),rfl⟩ ?_ ?_
 exact wp [(4,2)] ⟨rfl,rfl,(Qm (by first|rfl|simp)),trivial⟩
 rintro O P ⟨m,d,U,hm,o,rfl⟩
 have W:d.length≤17000000:=by rw[o,ah];have:=J6 (f:=Qdv c.2.2 i) (m:=m.toNat);have:=K (by omega);omega
 refine w5 ?_
 refine alL 21 fun _=> ?_
 refine w3 ?_
 cases H:(decide (m<(c.2.2.length:Int)))
 have I:=aa H
 refine w6 ?_
 refine Qd ?_
 refine l0_ ?_
 exact wp [(2,4)] ⟨rfl,(Qm ((by rw[o];exact Qtz (by omega) (by omega)))),trivial⟩
 have I:=ab H
 refine w8 ?_
 obtain ⟨am,z⟩:=gx c.2.2 ((m).toNat)
 have t:=z
 have M:=Qgl N z
 refine w2 ?_
 refine lc (xal 5 Yq YJ) ?_
 refine w5 ?_
 refine alI 32 fun _=> ?_
 refine w2 ?_
 cases u:(!decide (h.2.1=(-1)))
 have A:(h.2.1=(-1)):=Qz u
 refine w16 ?_
 refine w12 ?_
 refine Qd<|QV ⟨(m+1),d,rfl,(by omega),(by exact Qc2 (by omega) o (UE r t (by omega))),rfl⟩ (by omega) ?_
 exact wo []
 have A:¬(h.2.1=(-1)):=QG u
 refine w7 ?_
 cases v:(decide (am.1=h.1))
 have C:=aa v
 refine w16 ?_
 refine w5 ?_
 refine Qd<|QV ⟨(m+1),d,rfl,(by omega),(by exact Qc2 (by omega) o (UE r t (by omega))),rfl⟩ (by omega) ?_
 exact wo []
 have C:=ab v
 refine w7 ?_
 cases w:(decide (am.2.1=h.2.1))
 have D:=aa w
 refine w14 ?_
 refine Qd<|QV ⟨(m+1),d,rfl,(by omega),(by exact Qc2 (by omega) o (UE r t (by omega))),rfl⟩ (by omega) ?_
 exact wo []
 have D:=ab w
 refine w7 ?_
 cases x:(!decide (am.2.2.2=h.2.2.2))
 have E:(am.2.2.2=h.2.2.2):=Qz x
 refine w7 ?_
 refine Qd<|QV ⟨(m+1),d,rfl,(by omega),(by exact Qc2 (by omega) o (UE r t (by omega))),rfl⟩ (by omega) ?_
 exact wo []
 have E:¬(am.2.2.2=h.2.2.2):=QG x
 refine w5 ?_
 refine lc (dBs 6 (e:= .int) Xt) ?_
 refine lc (dBs 7 (e:=Qs) UU (hab:=by exact ⟨_,_,_,_,rfl,(.inl ⟨_,rfl,rfl,rfl⟩),⟨rfl,rfl⟩,rfl⟩)) ?_
 refine lc (dA 8 QeF) ?_
 refine w_ ?_
 refine Qd ?_
 refine w5 ?_
 refine Qd<|QV ⟨(m+1),(d++([[(i:Int),m]])),rfl,(by omega),(by exact QtC (by omega) o (QtA (by omega) r t (by omega) (by omega) (by omega) (by omega) (by omega))),rfl⟩ (by omega) ?_
 exact wp [(4,8)] ⟨rfl,rfl,(Qm (by first|rfl|simp)),trivial⟩
theorem Qfx (c:ZM)(V:c.2.2.length≤4000)(N:∀a∈c.2.2,-1≤a.2.1):FC Tryz.prog 127 [(true,[.dat Ql c.1,.dat Qb c.2.1,.dat QA c.2.2])] [] 0 (Xv 62 Qs (Hg c.2.2 c.2.2.length)):=by
 refine Qj Tryz.func127 rfl rfl Tryz.ntmps127 fun Y T X Q Z S R=> ?_
 refine w_ ?_
 refine xbx 0 ?_
 refine w9 ?_
 refine alL 9 fun _=> ?_
 refine w4 ?_
 refine AC.wk (Wk.nilS 1 3 62 Qs rfl (Fresh.of rfl) (nlr rfl)) ?_
 refine lp0 c.2.2.length (fun i=>⟨[(1,lP 0 0),(2,lf (.val (.slice none 0 0))),(3,lR 2),(9,lf (.dat QA c.2.2)),(10,lI (c.2.2.length:Int)),(11,lI (i:Int))],[bx 0 28 [.dat Ql c.1,.dat Qb c.2.1,.dat QA c.2.2],ar 2 62 Qs (Hg c.2.2 i)]⟩) ?_ fun i _=> ?_
 exact wp [(2,1)] ⟨rfl,(Qm (rfl)),trivial⟩
 have K:=QoJ (i:=i) V
 refine w4 ?_
 cases F:(decide ((i:Int)<(c.2.2.length:Int)))
 have G:=aa F
 refine w7 ?_
 refine Qe<|fo_ T ?_
 (congr 1;omega)
 have G:=ab F
 refine w6 ?_
 obtain ⟨h,J⟩:=gx c.2.2 i
 have r:=J
 have L:=Qgl N J
 refine w2 ?_
 refine lc (xal 3 Yq YJ) ?_
 refine w9 ?_
 refine Qu (fun O P=>∃(m:Int) (d:List (List Int)),O=((c.2.2.length:Int) - m).toNat∧((i:Int)+1≤m∧m≤(c.2.2.length:Int))∧(d=Hg c.2.2 i++rg (Qdv c.2.2 i) m.toNat)∧P=⟨[(1,lP 0 0),(2,lf (.val (.slice none 0 0))),(3,lR 4),(4,lI (i:Int)),(5,lP 3 0),(6,lI m),(9,lf (.dat QA c.2.2)),(10,lI (c.2.2.length:Int)),(11,lI (i:Int)),(12,lB true),(13,lI (i:Int)),(14,lf (.elt Yq h 0)),(15,ag [dI h.1,dI h.2.1,dB h.2.2.1,dI h.2.2.2]),(16,lI (i:Int)),(17,lI ((i:Int)+1))],[bx 0 28 [.dat Ql c.1,.dat Qb c.2.1,.dat QA c.2.2],bx 3 139 [dI h.1,dI h.2.1,dB h.2.2.1,dI h.2.2.2],ar 4 62 Qs d]⟩) ⟨(i:Int)+1,Hg c.2.2 i,rfl,(by omega),(by rw[show ((i:Int)+1).toNat=i+1 by omega,QhS,br]),rfl⟩ ?_ ?_
 exact wp [(4,2)] ⟨rfl,rfl,(Qm (by first|rfl|simp)),trivial⟩
 rintro O P ⟨m,d,U,hm,o,rfl⟩
 have W:d.length≤17000000:=by rw[o,ah];have:=J6 (f:=Qdv c.2.2 i) (m:=m.toNat);have:=K (by omega);omega
 refine w5 ?_
 refine alL 20 fun _=> ?_
 refine w3 ?_
 cases H:(decide (m<(c.2.2.length:Int)))
 have I:=aa H
 refine w6 ?_
 refine Qd ?_
 refine l0_ ?_
 exact wp [(2,4)] ⟨rfl,(Qm ((by rw[o];exact Qtz (by omega) (by omega)))),trivial⟩
 have I:=ab H
 refine w8 ?_
 obtain ⟨am,z⟩:=gx c.2.2 ((m).toNat)
 have t:=z
 have M:=Qgl N z
 refine w2 ?_
 refine lc (xal 5 Yq YJ) ?_
 refine w5 ?_
 refine alI 31 fun _=> ?_
 refine w2 ?_
 refine alI 33 fun _=> ?_
 refine w2 ?_
 cases u:(decide (h.1=am.1))
 have A:=aa u
 refine w16 ?_
 refine w10 ?_
 refine Qd<|QV ⟨(m+1),d,rfl,(by omega),(by exact Qc2 (by omega) o (UE r t (by omega))),rfl⟩ (by omega) ?_
 exact wo []
 have A:=ab u
 refine w7 ?_
 cases v:(decide (h.2.1=am.2.1))
 have C:=aa v
 refine w16 ?_
 refine w3 ?_
 refine Qd<|QV ⟨(m+1),d,rfl,(by omega),(by exact Qc2 (by omega) o (UE r t (by omega))),rfl⟩ (by omega) ?_
 exact wo []
 have C:=ab v
 refine w5 ?_
 cases w:(decide (0≤h.2.1))
 have D:=aa w
 refine w14 ?_
 refine Qd<|QV ⟨(m+1),d,rfl,(by omega),(by exact Qc2 (by omega) o (UE r t (by omega))),rfl⟩ (by omega) ?_
 exact wo []
 have D:=ab w
 refine w7 ?_
 cases x:(!decide (h.2.2.2=am.2.2.2))
 have E:(h.2.2.2=am.2.2.2):=Qz x
 refine w7 ?_
 refine Qd<|QV ⟨(m+1),d,rfl,(by omega),(by exact Qc2 (by omega) o (UE r t (by omega))),rfl⟩ (by omega) ?_
 exact wo []
 have E:¬(h.2.2.2=am.2.2.2):=QG x
 refine w5 ?_
 refine lc (dBs 6 (e:= .int) Xt) ?_
 refine lc (dBs 7 (e:=Qs) UU (hab:=by exact ⟨_,_,_,_,rfl,(.inl ⟨_,rfl,rfl,rfl⟩),⟨rfl,rfl⟩,rfl⟩)) ?_
 refine lc (dA 8 QeF) ?_
 refine w_ ?_
 refine Qd ?_
 refine w5 ?_
 refine Qd<|QV ⟨(m+1),(d++([[(i:Int),m]])),rfl,(by omega),(by exact QtC (by omega) o (QtA (by omega) r t (by omega) (by omega) (by omega) (by omega) (by omega))),rfl⟩ (by omega) ?_
 exact wp [(4,8)] ⟨rfl,rfl,(Qm (by first|rfl|simp)),trivial⟩
theorem QaC (c:ZM)(N:SgW c):FC Tryz.prog 227 [(true,[.dat Ql c.1,.dat Qb c.2.1,.dat QA c.2.2])] [] 0 (Xv 253 Z5 (Wx c (rwI c) c.2.1.length)):=by
 have t:∀a∈c.2.2,InR c.2.1.length a:=fun a Y=>(N.arcs a Y).1
 have b9:=N.some_
 have b6:=N.few
 have h8:=N.sig8
 have U:=QdY (n:=c.2.1.length) (as_:=c.2.2)
 have b8:=QbC (n:=c.2.1.length) (as_:=c.2.2)
 have c0:=XA (n:=c.2.1.length) (es:=ixE c.2.2)
 have a2:∀k s,k<c.2.1.length→(rwI c k s).length≤c.2.2.length:=fun k s hk=>Qvw hk
 refine Qj Tryz.func227 rfl rfl Tryz.ntmps227 fun O_ hO c1 a8 X_ b0 a9=> ?_
 refine w_ ?_
 refine xbx 0 ?_
 refine w2 ?_
 apply dW (⟨some 11,lR 1,[(1,some (.arr 253 Z5 ([])))]⟩::io 12 (ag [.dat Ql c.1,.dat Qb c.2.1,.dat QA c.2.2])::io 13 (lf (.dat Qs (Xz c.2.1.length c.2.2)))::io 14 (ag [.dat Ql c.1,.dat Qb c.2.1,.dat QA c.2.2])::io 15 (lf (.dat Ji (Zn c.2.1.length (ixE c.2.2))))::i3 3 _ _ _ []) [0,1,1,7,1,0,0,0]
 refine zz (fun _ h_=>ac (dBs 1 (e:=Z5) HJ) rfl) ?_
 refine z_ ?_
 refine zz (fun _ h_=>ac (dK (V1 c N).frozen Qfb) rfl) ?_
 refine z_ ?_
 refine zz (fun _ h_=>ac (dK (Qch c t (by omega)).frozen QlX) rfl) ?_
 exact y3
 refine w4 ?_
 refine alL 17 fun _=> ?_
 refine w4 ?_
 refine lp0 c.2.1.length (fun k=>⟨[(1,lP 0 0),(2,lf (.val (.slice none 0 0))),(3,lR 2),(4,lf (.dat Qs (Xz c.2.1.length c.2.2))),(5,lf (.dat Ji (Zn c.2.1.length (ixE c.2.2)))),(18,lI (c.2.1.length:Int)),(19,lI (k:Int))],[bx 0 28 [.dat Ql c.1,.dat Qb c.2.1,.dat QA c.2.2],(2,some (.arr 253 Z5 (Wx c (rwI c) k)))]⟩) ?_ fun k _=> ?_
 exact wp [(2,1)] ⟨rfl,(Qm (rfl)),trivial⟩
 have Z:=fun j hj=>Qnl (n:=k) (k:=k) (j:=j) N (by omega) hj a2
 refine w4 ?_
 cases P:(decide ((k:Int)<(c.2.1.length:Int)))
 have Q:=aa P
 refine w7 ?_
 refine Qe<|fo_ hO ?_
 (congr 1;omega)
 have Q:=ab P
 refine w11 ?_
 refine alL 23 fun _=> ?_
 refine w4 ?_
 refine lp0 c.1.length (fun j=>⟨[(1,lP 0 0),(2,lf (.val (.slice none 0 0))),(3,lR 3),(4,lf (.dat Qs (Xz c.2.1.length c.2.2))),(5,lf (.dat Ji (Zn c.2.1.length (ixE c.2.2)))),(6,lI (k:Int)),(18,lI (c.2.1.length:Int)),(19,lI (k:Int)),(20,lB true),(21,lI (k:Int)),(22,lP 0 0),(23,lf (.dat Ql c.1)),(24,lI (c.1.length:Int)),(25,lI (j:Int))],[bx 0 28 [.dat Ql c.1,.dat Qb c.2.1,.dat QA c.2.2],(3,some (.arr 253 Z5 (Wx c (rwI c) k++VK c (rwI c) k j)))]⟩) ?_ fun j _=> ?_
 exact wp [(3,2)] ⟨rfl,(Qm (by simp[VK,rf])),trivial⟩
 have a0:=Z j (by omega)
 refine w4 ?_
 cases R:(decide ((j:Int)<(c.1.length:Int)))
 have S:=aa R
 refine w6 ?_
 refine Qd ?_
 refine l0_ ?_
 exact wp [(2,3)] ⟨rfl,(Qm (QgN (by omega) (by omega))),trivial⟩
 have S:=ab R
 refine w12 ?_
 obtain ⟨x,W⟩:=gx (Xz c.2.1.length c.2.2) k
 have X:=W
 have u:=U _ (ae W)
 refine w2 ?_
 refine alI 31 fun _=> ?_
 refine w_ ?_
 refine lc (VF (Qq rfl) (Qa rfl) rfl (by omega))<|lc (Qa1 (Qa rfl) (Qa rfl) rfl (by omega) (by first|exact u|exact v|exact ce u (bY (by decide))|exact ce v (bY (by decide))|omega|exact bV _))<|lc (QaY (Qa rfl) (Qq rfl) rfl (by first|exact u|exact v|exact ce u (bY (by decide))|exact ce v (bY (by decide))|omega|exact bV _) (by omega)) ?_
 refine w2 ?_
 cases D:(decide ((((x / 2 ^ (2*(j:Int)).toNat).toNat &&& (3:Int).toNat:Nat):Int)=0))
 have J:=aa D
 refine w5 ?_
 obtain ⟨C,z⟩:=gx (Zn c.2.1.length (ixE c.2.2)) k
 have V:=z
 have a3:=Ko z
 rw[Qbz] at a3
 have a4:∀x,x∈C↔_:=fun x=>Qht (x:=x) (fun a Y=>(t a Y).1.1) z
 refine w2 ?_
 refine alL 40 fun _=> ?_
 refine w4 ?_
 refine lp0 C.length (fun i=>⟨[(1,lP 0 0),(2,lf (.val (.slice none 0 0))),(3,lR 4),(4,lf (.dat Qs (Xz c.2.1.length c.2.2))),(5,lf (.dat Ji (Zn c.2.1.length (ixE c.2.2)))),(6,lI (k:Int)),(7,lI (j:Int)),(18,lI (c.2.1.length:Int)),(19,lI (k:Int)),(20,lB true),(21,lI (k:Int)),(22,lP 0 0),(23,lf (.dat Ql c.1)),(24,lI (c.1.length:Int)),(25,lI (j:Int)),(26,lB true),(27,lI (j:Int)),(28,lf (.dat Qs (Xz c.2.1.length c.2.2))),(29,lI (k:Int)),(30,lf (.elt .int x 0)),(31,lI x),(32,lI (j:Int)),(33,lI (2*(j:Int))),(34,lI (x / 2 ^ (2*(j:Int)).toNat)),(35,lI (((x / 2 ^ (2*(j:Int)).toNat).toNat &&& (3:Int).toNat:Nat):Int)),(36,lB false),(37,lf (.dat Ji (Zn c.2.1.length (ixE c.2.2)))),(38,lI (k:Int)),(39,lf (.elt Qs C 0)),(40,lf (.dat Qs C)),(41,lI (C.length:Int)),(42,lI (i:Int))],[bx 0 28 [.dat Ql c.1,.dat Qb c.2.1,.dat QA c.2.2],(4,some (.arr 253 Z5 (Wx c (rwI c) k++VK c (rwI c) k j++rg (Qh8 c C k j) i)))]⟩) ?_ fun i _=> ?_
 exact wp [(4,3)] ⟨rfl,(Qm (by simp[rg])),trivial⟩
 have b4:=J6 (f:=Qh8 c C k j) (m:=i)
 have b5:=a0.2 (by omega)
 refine w4 ?_
 cases E:(decide ((i:Int)<(C.length:Int)))
 have K:=aa E
 refine w6 ?_
 refine Qd ?_
 refine l0_ ?_
 exact wp [(3,4)] ⟨rfl,(Qm (by first|exact QdI (Jg t ⟨by omega,by omega⟩ (by omega) X ‹_›)|exact QgO (QfQ t ⟨by omega,by omega⟩ (by omega) X ‹_›) V (by omega) (by omega))),trivial⟩
 have K:=ab E
 refine w5 ?_
 obtain ⟨q,H⟩:=gx C i
 obtain ⟨jq,aq,a1,b3,hq⟩:=(a4 _).1 (ae H)
 have b7:=(ai.1 a1).1
 have h:=H
 refine w2 ?_
 refine alI 45 fun _=> ?_
 refine w6 ?_
 obtain ⟨ar,A⟩:=gx c.2.2 ((q).toNat)
 have O:=t _ (ae A)
 obtain ⟨⟨b1,b2⟩,o,r⟩:=O
 have T:=(N.arcs _ (ae A)).2
 have a7:ar.2.1<(c.1.length:Int):=Qix T
 have d:=A
 refine w2 ?_
 refine lc (xal 5 Yq YJ) ?_
 refine w5 ?_
 refine alI 52 fun _=> ?_
 refine w3 ?_
 cases F:(!decide (ar.2.1=(j:Int)))
 have L:(ar.2.1=(j:Int)):=Qz F
 refine w16 ?_
 refine Qh rfl rfl rfl ?_ rfl
 refine Qh rfl rfl rfl ?_ rfl
 refine Qh rfl rfl rfl ?_ rfl
 refine Qh rfl rfl rfl ?_ rfl
 refine w10 ?_
 refine Qd ?_
 refine l0_ ?_
 exact wp [] ⟨rfl,(Qm (by first|exact Yn (Xc h d (VO ‹_› (Jg t ⟨o,r⟩ (by omega) w ‹_›) ‹_›))|exact Yn (Xc h d (VP ‹_› (Jg t ⟨o,r⟩ (by omega) w ‹_›) ‹_›))|exact congrArg _ (ZJ (YH h d (VL ‹_›)))|exact congrArg _ (ZJ (YH h d (VN ‹_› ‹_›)))|exact congrArg _ (ZJ (YH h d (VM (QfQ t ⟨o,r⟩ (by omega) w ‹_›)))))),trivial⟩
 have L:¬(ar.2.1=(j:Int)):=QG F
 refine w3 ?_
 obtain ⟨y,I⟩:=gx (Xz c.2.1.length c.2.2) ((ar.2.2.2).toNat)
 have w:=I
 have v:=U _ (ae I)
 refine w3 ?_
 refine lgy rfl rfl (VF (Qq rfl) (Qa rfl) rfl (by omega))<|lgy rfl rfl (Qa1 (Qa rfl) (Qa rfl) rfl (by omega) (by first|exact u|exact v|exact ce u (bY (by decide))|exact ce v (bY (by decide))|omega|exact bV _))<|lgy rfl rfl (QaY (Qa rfl) (Qq rfl) rfl (by first|exact u|exact v|exact ce u (bY (by decide))|exact ce v (bY (by decide))|omega|exact bV _) (by omega)) ?_
 refine w3 ?_
 cases G:(decide ((((y / 2 ^ (2*(j:Int)).toNat).toNat &&& (3:Int).toNat:Nat):Int)=0))
 have M:=aa G
 refine w4 ?_
 refine Qh rfl rfl rfl ?_ rfl
 refine Qh rfl rfl rfl ?_ rfl
 refine Qh rfl rfl rfl ?_ rfl
 refine Qh rfl rfl rfl ?_ rfl
 refine w10 ?_
 refine Qd ?_
 refine l0_ ?_
 exact wp [] ⟨rfl,(Qm (by first|exact Yn (Xc h d (VO ‹_› (Jg t ⟨o,r⟩ (by omega) w ‹_›) ‹_›))|exact Yn (Xc h d (VP ‹_› (Jg t ⟨o,r⟩ (by omega) w ‹_›) ‹_›))|exact congrArg _ (ZJ (YH h d (VL ‹_›)))|exact congrArg _ (ZJ (YH h d (VN ‹_› ‹_›)))|exact congrArg _ (ZJ (YH h d (VM (QfQ t ⟨o,r⟩ (by omega) w ‹_›)))))),trivial⟩
 have M:=ab G
 refine w2 ?_
 refine lgy rfl rfl (dK (K8 c (j:Int) (by omega)) Qfc) ?_
 refine w_ ?_
 cases a5:(XN c (j:Int))
 refine w14 ?_
 refine lc (Qk QdG ⟨_,_,rfl,(Qn rfl),⟨_,_,rfl,(Qn rfl),⟨_,_,rfl,(Qn rfl),rfl⟩⟩⟩ (au.1 rfl) rfl rfl) ?_
 refine lc (dBs 6 (e:=Z5) HJ (hab:=by exact ⟨_,_,_,_,rfl,⟨[dI (k:Int)],[dI (j:Int),dI q],_,_,_,_,rfl,rfl,⟨rfl,rfl⟩,⟨[dI (j:Int)],[dI q],_,_,_,_,rfl,rfl,⟨rfl,rfl⟩,⟨rfl,rfl⟩,rfl⟩,rfl⟩,⟨rfl,rfl⟩,rfl⟩)) ?_
 refine lc (dA 7 QdN) ?_
 refine w_ ?_
 refine Qd ?_
 refine w4 ?_
 refine Qd ?_
 refine l0_ ?_
 exact wp [(4,7)] ⟨rfl,(Qm (by first|exact Yn (Xc h d (VO ‹_› (Jg t ⟨o,r⟩ (by omega) w ‹_›) ‹_›))|exact Yn (Xc h d (VP ‹_› (Jg t ⟨o,r⟩ (by omega) w ‹_›) ‹_›))|exact congrArg _ (ZJ (YH h d (VL ‹_›)))|exact congrArg _ (ZJ (YH h d (VN ‹_› ‹_›)))|exact congrArg _ (ZJ (YH h d (VM (QfQ t ⟨o,r⟩ (by omega) w ‹_›)))))),trivial⟩
 refine w3 ?_
 refine lgy rfl rfl (dK (K8 c ar.2.1 (by omega)) Qfc) ?_
 refine w4 ?_
 cases a6:(XN c ar.2.1)
 refine w6 ?_
 refine lc (Qk QdG ⟨_,_,rfl,(Qn rfl),⟨_,_,rfl,(Qn rfl),⟨_,_,rfl,(Qn rfl),rfl⟩⟩⟩ (au.1 rfl) rfl rfl) ?_
 refine lc (dBs 8 (e:=Z5) HJ (hab:=by exact ⟨_,_,_,_,rfl,⟨[dI (k:Int)],[dI (j:Int),dI q],_,_,_,_,rfl,rfl,⟨rfl,rfl⟩,⟨[dI (j:Int)],[dI q],_,_,_,_,rfl,rfl,⟨rfl,rfl⟩,⟨rfl,rfl⟩,rfl⟩,rfl⟩,⟨rfl,rfl⟩,rfl⟩)) ?_
 refine lc (dA 9 QdN) ?_
 refine w_ ?_
 refine Qd ?_
 refine w4 ?_
 refine Qd ?_
 refine l0_ ?_
 exact wp [(4,9)] ⟨rfl,(Qm (by first|exact Yn (Xc h d (VO ‹_› (Jg t ⟨o,r⟩ (by omega) w ‹_›) ‹_›))|exact Yn (Xc h d (VP ‹_› (Jg t ⟨o,r⟩ (by omega) w ‹_›) ‹_›))|exact congrArg _ (ZJ (YH h d (VL ‹_›)))|exact congrArg _ (ZJ (YH h d (VN ‹_› ‹_›)))|exact congrArg _ (ZJ (YH h d (VM (QfQ t ⟨o,r⟩ (by omega) w ‹_›)))))),trivial⟩
 refine w6 ?_
 refine Qd ?_
 refine l0_ ?_
 exact wp [] ⟨rfl,(Qm (by first|exact Yn (Xc h d (VO ‹_› (Jg t ⟨o,r⟩ (by omega) w ‹_›) ‹_›))|exact Yn (Xc h d (VP ‹_› (Jg t ⟨o,r⟩ (by omega) w ‹_›) ‹_›))|exact congrArg _ (ZJ (YH h d (VL ‹_›)))|exact congrArg _ (ZJ (YH h d (VN ‹_› ‹_›)))|exact congrArg _ (ZJ (YH h d (VM (QfQ t ⟨o,r⟩ (by omega) w ‹_›)))))),trivial⟩
 have J:=ab D
 refine w6 ?_
 refine Qd ?_
 refine l0_ ?_
 exact wp [] ⟨rfl,(Qm (by first|exact QdI (Jg t ⟨by omega,by omega⟩ (by omega) X ‹_›)|exact QgO (QfQ t ⟨by omega,by omega⟩ (by omega) X ‹_›) V (by omega) (by omega))),trivial⟩
theorem UR (c:ZM)(sig:Int)(z:sig<(c.1.length:Int)):FC Tryz.prog 204 [(true,[.dat Ql c.1,.dat Qb c.2.1,.dat QA c.2.2]),(false,[dI sig])] [] 0 (QK (lB (!XN c sig))):=by
 refine Qj Tryz.func204 rfl rfl Tryz.ntmps204 fun w o v r x u t=> ?_
 refine acI 1 fun _=> ?_
 refine w_ ?_
 refine xbx 0 ?_
 refine w6 ?_
 cases d:(decide (sig<0))
 have e:=aa d
 refine w3 ?_
 obtain ⟨A,h⟩:=gx c.1 ((sig).toNat)
 refine w7 ?_
 refine Qe<|fqB o ?_
 ·(rw[← QfE (by omega) h];done)
 have e:=ab d
 refine w10 ?_
 refine Qe<|fqB o ?_
 (rw[← QnS (by omega)];rfl)
theorem Je (c:ZM)(C:c.1.length≤100000):FC Tryz.prog 130 [(true,[.dat Ql c.1,.dat Qb c.2.1,.dat QA c.2.2])] [] 0 (Xv 3 .int (QD c.1 c.1.length)):=by
 refine Qj Tryz.func130 rfl rfl Tryz.ntmps130 fun z u x o A t r=> ?_
 refine w_ ?_
 refine xbx 0 ?_
 refine w9 ?_
 refine alL 6 fun _=> ?_
 refine w4 ?_
 refine AC.wk (Wk.nilS 1 3 3 .int rfl (Fresh.of rfl) (nlr rfl)) ?_
 refine lp0 c.1.length (fun k=>⟨[(1,lP 0 0),(2,lf (.val (.slice none 0 0))),(3,lR 2),(7,lI (c.1.length:Int)),(8,lI (k:Int))],[bx 0 28 [.dat Ql c.1,.dat Qb c.2.1,.dat QA c.2.2],ar 2 3 .int (QD c.1 k)]⟩) ?_ fun k _=> ?_
 exact wp [(2,1)] ⟨rfl,(Qm (rfl)),trivial⟩
 have w:=Y0 (ss:=c.1) (k:=k)
 refine w4 ?_
 cases d:(decide ((k:Int)<(c.1.length:Int)))
 have h:=aa d
 refine w7 ?_
 refine Qe<|fo_ u ?_
 (congr 1;omega)
 have h:=ab d
 refine w11 ?_
 refine lc (dK (UR c (k:Int) (by omega)) Qap) ?_
 refine w_ ?_
 cases v:(XN c (k:Int))
 refine w4 ?_
 refine lc (dBs 3 (e:= .int) Xt) ?_
 refine lc (dA 4 Vh) ?_
 refine w_ ?_
 refine Qd ?_
 refine w4 ?_
 refine Qd ?_
 refine l0_ ?_
 exact wp [(2,4)] ⟨rfl,(Qm (by first|exact Qhx (by omega) ‹_› | exact Qkb (by omega) ‹_›)),trivial⟩
 refine w6 ?_
 refine Qd ?_
 refine l0_ ?_
 exact wp [] ⟨rfl,(Qm (by first|exact Qhx (by omega) ‹_› | exact Qkb (by omega) ‹_›)),trivial⟩
theorem Qcn (c:ZM)(x:SgW c):FC Tryz.prog 128 [(true,[.dat Ql c.1,.dat Qb c.2.1,.dat QA c.2.2])] [] 0 (Xv 253 Z5 (Wx c (rwS c) c.2.1.length)):=by
 have hr:∀a∈c.2.2,InR c.2.1.length a:=fun a R=>(x.arcs a R).1
 have a0:=x.some_
 have Z:=x.few
 have h8:=x.sig8
 have I:∀k s,k<c.2.1.length→(rwS c k s).length≤c.2.2.length:=fun k s hk=>Qvx
 refine Qj Tryz.func128 rfl rfl Tryz.ntmps128 fun O_ Q a1 N X_ P O=> ?_
 refine w_ ?_
 refine xbx 0 ?_
 refine w9 ?_
 refine alL 9 fun _=> ?_
 refine w4 ?_
 refine AC.wk (Wk.nilS 1 3 253 Z5 rfl (Fresh.of rfl) (nlr rfl)) ?_
 refine lp0 c.2.1.length (fun k=>⟨[(1,lP 0 0),(2,lf (.val (.slice none 0 0))),(3,lR 2),(10,lI (c.2.1.length:Int)),(11,lI (k:Int))],[bx 0 28 [.dat Ql c.1,.dat Qb c.2.1,.dat QA c.2.2],(2,some (.arr 253 Z5 (Wx c (rwS c) k)))]⟩) ?_ fun k _=> ?_
 exact wp [(2,1)] ⟨rfl,(Qm (rfl)),trivial⟩
 have G:=fun j hj=>Qnl (n:=k) (k:=k) (j:=j) x (by omega) hj I
 refine w4 ?_
 cases A:(decide ((k:Int)<(c.2.1.length:Int)))
 have C:=aa A
 refine w7 ?_
 refine Qe<|fo_ Q ?_
 (congr 1;omega)
 have C:=ab A
 refine w11 ?_
 refine alL 15 fun _=> ?_
 refine w4 ?_
 refine lp0 c.1.length (fun j=>⟨[(1,lP 0 0),(2,lf (.val (.slice none 0 0))),(3,lR 3),(4,lI (k:Int)),(10,lI (c.2.1.length:Int)),(11,lI (k:Int)),(12,lB true),(13,lI (k:Int)),(14,lP 0 0),(15,lf (.dat Ql c.1)),(16,lI (c.1.length:Int)),(17,lI (j:Int))],[bx 0 28 [.dat Ql c.1,.dat Qb c.2.1,.dat QA c.2.2],(3,some (.arr 253 Z5 (Wx c (rwS c) k++VK c (rwS c) k j)))]⟩) ?_ fun j _=> ?_
 exact wp [(3,2)] ⟨rfl,(Qm (by simp[VK,rf])),trivial⟩
 have H:=G j (by omega)
 refine w4 ?_
 cases D:(decide ((j:Int)<(c.1.length:Int)))
 have E:=aa D
 refine w6 ?_
 refine Qd ?_
 refine l0_ ?_
 exact wp [(2,3)] ⟨rfl,(Qm (QgN (by omega) (by omega))),trivial⟩
 have E:=ab D
 refine w13 ?_
 refine lc (dK (Z7 c (k:Int) (j:Int)) VC) ?_
 refine w2 ?_
 cases W:(QW c (k:Int) (j:Int))
 refine w6 ?_
 refine Qd ?_
 refine l0_ ?_
 exact wp [] ⟨rfl,(Qm (by first|exact QdI ‹_› | exact QgP ‹_› (by omega) (by omega))),trivial⟩
 refine w5 ?_
 refine alL 26 fun _=> ?_
 refine w4 ?_
 refine lp0 c.2.2.length (fun i=>⟨[(1,lP 0 0),(2,lf (.val (.slice none 0 0))),(3,lR 4),(4,lI (k:Int)),(5,lI (j:Int)),(10,lI (c.2.1.length:Int)),(11,lI (k:Int)),(12,lB true),(13,lI (k:Int)),(14,lP 0 0),(15,lf (.dat Ql c.1)),(16,lI (c.1.length:Int)),(17,lI (j:Int)),(18,lB true),(19,lI (j:Int)),(20,ag [.dat Ql c.1,.dat Qb c.2.1,.dat QA c.2.2]),(21,lI (k:Int)),(22,lI (j:Int)),(23,lB true),(24,lB (!true)),(25,lP 0 2),(26,lf (.dat QA c.2.2)),(27,lI (c.2.2.length:Int)),(28,lI (i:Int))],[bx 0 28 [.dat Ql c.1,.dat Qb c.2.1,.dat QA c.2.2],(4,some (.arr 253 Z5 (Wx c (rwS c) k++VK c (rwS c) k j++rg (Qjv c k j) i)))]⟩) ?_ fun i _=> ?_
 exact wp [(4,3)] ⟨rfl,(Qm (by simp[rg])),trivial⟩
 have X:=J6 (f:=Qjv c k j) (m:=i)
 have Y:=H.2 (by omega)
 refine w4 ?_
 cases o:(decide ((i:Int)<(c.2.2.length:Int)))
 have u:=aa o
 refine w6 ?_
 refine Qd ?_
 refine l0_ ?_
 exact wp [(3,4)] ⟨rfl,(Qm (by first|exact QdI ‹_› | exact QgP ‹_› (by omega) (by omega))),trivial⟩
 have u:=ab o
 refine w6 ?_
 obtain ⟨ar,h⟩:=gx c.2.2 i
 have z:=hr _ (ae h)
 obtain ⟨⟨S,T⟩,U,V⟩:=z
 have F:=(x.arcs _ (ae h)).2
 have M:ar.2.1<(c.1.length:Int):=Qix F
 have d:=h
 refine w2 ?_
 refine lc (xal 5 Yq YJ) ?_
 refine w6 ?_
 refine alI 34 fun _=> ?_
 refine w3 ?_
 cases r:(decide (ar.1=(k:Int)))
 have v:=aa r
 refine w16 ?_
 refine w2 ?_
 refine Qh rfl rfl rfl ?_ rfl
 refine Qh rfl rfl rfl ?_ rfl
 refine Qh rfl rfl rfl ?_ rfl
 refine Qh rfl rfl rfl ?_ rfl
 refine w9 ?_
 refine Qd ?_
 refine l0_ ?_
 exact wp [] ⟨rfl,(Qm (by first|exact Yn (YL d ‹_› (VO ‹_› ‹_› ‹_›))|exact Yn (YL d ‹_› (VP ‹_› ‹_› ‹_›))|exact congrArg _ (ZJ (ZB d fun g=>absurd g.1 ‹_›))|exact congrArg _ (ZJ (ZB d fun g=>absurd ((VL ‹_›).symm.trans g.2) (by decide)))|exact congrArg _ (ZJ (ZB d fun g=>absurd ((VM ‹_›).symm.trans g.2) (by decide)))|exact congrArg _ (ZJ (ZB d fun g=>absurd ((VN ‹_› ‹_›).symm.trans g.2) (by decide))))),trivial⟩
 have v:=ab r
 refine w6 ?_
 cases t:(!decide (ar.2.1=(j:Int)))
 have w:(ar.2.1=(j:Int)):=Qz t
 refine w12 ?_
 refine Qh rfl rfl rfl ?_ rfl
 refine Qh rfl rfl rfl ?_ rfl
 refine Qh rfl rfl rfl ?_ rfl
 refine Qh rfl rfl rfl ?_ rfl
 refine w9 ?_
 refine Qd ?_
 refine l0_ ?_
 exact wp [] ⟨rfl,(Qm (by first|exact Yn (YL d ‹_› (VO ‹_› ‹_› ‹_›))|exact Yn (YL d ‹_› (VP ‹_› ‹_› ‹_›))|exact congrArg _ (ZJ (ZB d fun g=>absurd g.1 ‹_›))|exact congrArg _ (ZJ (ZB d fun g=>absurd ((VL ‹_›).symm.trans g.2) (by decide)))|exact congrArg _ (ZJ (ZB d fun g=>absurd ((VM ‹_›).symm.trans g.2) (by decide)))|exact congrArg _ (ZJ (ZB d fun g=>absurd ((VN ‹_› ‹_›).symm.trans g.2) (by decide))))),trivial⟩
 have w:¬(ar.2.1=(j:Int)):=QG t
 refine w4 ?_
 refine lgy rfl rfl (dK (Z7 c ar.2.2.2 (j:Int)) VC) ?_
 refine w3 ?_
 cases J:(QW c ar.2.2.2 (j:Int))
 refine w2 ?_
 refine lgy rfl rfl (dK (UR c (j:Int) (by omega)) Qap) ?_
 refine w_ ?_
 cases K:(XN c (j:Int))
 refine w13 ?_
 refine lc (Qk QdG ⟨_,_,rfl,(Qn rfl),⟨_,_,rfl,(Qn rfl),⟨_,_,rfl,(Qn rfl),rfl⟩⟩⟩ (au.1 rfl) rfl rfl) ?_
 refine lc (dBs 6 (e:=Z5) HJ (hab:=by exact ⟨_,_,_,_,rfl,⟨[dI (k:Int)],[dI (j:Int),dI (i:Int)],_,_,_,_,rfl,rfl,⟨rfl,rfl⟩,⟨[dI (j:Int)],[dI (i:Int)],_,_,_,_,rfl,rfl,⟨rfl,rfl⟩,⟨rfl,rfl⟩,rfl⟩,rfl⟩,⟨rfl,rfl⟩,rfl⟩)) ?_
 refine lc (dA 7 QdN) ?_
 refine w_ ?_
 refine Qd ?_
 refine w4 ?_
 refine Qd ?_
 refine l0_ ?_
 exact wp [(4,7)] ⟨rfl,(Qm (by first|exact Yn (YL d ‹_› (VO ‹_› ‹_› ‹_›))|exact Yn (YL d ‹_› (VP ‹_› ‹_› ‹_›))|exact congrArg _ (ZJ (ZB d fun g=>absurd g.1 ‹_›))|exact congrArg _ (ZJ (ZB d fun g=>absurd ((VL ‹_›).symm.trans g.2) (by decide)))|exact congrArg _ (ZJ (ZB d fun g=>absurd ((VM ‹_›).symm.trans g.2) (by decide)))|exact congrArg _ (ZJ (ZB d fun g=>absurd ((VN ‹_› ‹_›).symm.trans g.2) (by decide))))),trivial⟩
 refine w3 ?_
 refine lgy rfl rfl (dK (UR c ar.2.1 (by omega)) Qap) ?_
 refine w3 ?_
 cases L:(XN c ar.2.1)
 refine w6 ?_
 refine lc (Qk QdG ⟨_,_,rfl,(Qn rfl),⟨_,_,rfl,(Qn rfl),⟨_,_,rfl,(Qn rfl),rfl⟩⟩⟩ (au.1 rfl) rfl rfl) ?_
 refine lc (dBs 8 (e:=Z5) HJ (hab:=by exact ⟨_,_,_,_,rfl,⟨[dI (k:Int)],[dI (j:Int),dI (i:Int)],_,_,_,_,rfl,rfl,⟨rfl,rfl⟩,⟨[dI (j:Int)],[dI (i:Int)],_,_,_,_,rfl,rfl,⟨rfl,rfl⟩,⟨rfl,rfl⟩,rfl⟩,rfl⟩,⟨rfl,rfl⟩,rfl⟩)) ?_
 refine lc (dA 9 QdN) ?_
 refine w_ ?_
 refine Qd ?_
 refine w4 ?_
 refine Qd ?_
 refine l0_ ?_
 exact wp [(4,9)] ⟨rfl,(Qm (by first|exact Yn (YL d ‹_› (VO ‹_› ‹_› ‹_›))|exact Yn (YL d ‹_› (VP ‹_› ‹_› ‹_›))|exact congrArg _ (ZJ (ZB d fun g=>absurd g.1 ‹_›))|exact congrArg _ (ZJ (ZB d fun g=>absurd ((VL ‹_›).symm.trans g.2) (by decide)))|exact congrArg _ (ZJ (ZB d fun g=>absurd ((VM ‹_›).symm.trans g.2) (by decide)))|exact congrArg _ (ZJ (ZB d fun g=>absurd ((VN ‹_› ‹_›).symm.trans g.2) (by decide))))),trivial⟩
 refine w6 ?_
 refine Qd ?_
 refine l0_ ?_
 exact wp [] ⟨rfl,(Qm (by first|exact Yn (YL d ‹_› (VO ‹_› ‹_› ‹_›))|exact Yn (YL d ‹_› (VP ‹_› ‹_› ‹_›))|exact congrArg _ (ZJ (ZB d fun g=>absurd g.1 ‹_›))|exact congrArg _ (ZJ (ZB d fun g=>absurd ((VL ‹_›).symm.trans g.2) (by decide)))|exact congrArg _ (ZJ (ZB d fun g=>absurd ((VM ‹_›).symm.trans g.2) (by decide)))|exact congrArg _ (ZJ (ZB d fun g=>absurd ((VN ‹_› ‹_›).symm.trans g.2) (by decide))))),trivial⟩
 refine w4 ?_
 refine Qh rfl rfl rfl ?_ rfl
 refine Qh rfl rfl rfl ?_ rfl
 refine Qh rfl rfl rfl ?_ rfl
 refine Qh rfl rfl rfl ?_ rfl
 refine w9 ?_
 refine Qd ?_
 refine l0_ ?_
 exact wp [] ⟨rfl,(Qm (by first|exact Yn (YL d ‹_› (VO ‹_› ‹_› ‹_›))|exact Yn (YL d ‹_› (VP ‹_› ‹_› ‹_›))|exact congrArg _ (ZJ (ZB d fun g=>absurd g.1 ‹_›))|exact congrArg _ (ZJ (ZB d fun g=>absurd ((VL ‹_›).symm.trans g.2) (by decide)))|exact congrArg _ (ZJ (ZB d fun g=>absurd ((VM ‹_›).symm.trans g.2) (by decide)))|exact congrArg _ (ZJ (ZB d fun g=>absurd ((VN ‹_› ‹_›).symm.trans g.2) (by decide))))),trivial⟩
theorem Qdm (c:ZM)(N:c.2.1.length≤300):FC Tryz.prog 205 [(true,[.dat Ql c.1,.dat Qb c.2.1,.dat QA c.2.2])] [] 0 (Xv 62 Qs (Yv c (fun _ _=>true) c.2.1.length)):=by
 refine Qj Tryz.func205 rfl rfl Tryz.ntmps205 fun Q L P G R K J=> ?_
 refine w_ ?_
 refine xbx 0 ?_
 refine w9 ?_
 refine alL 7 fun _=> ?_
 refine w4 ?_
 refine AC.wk (Wk.nilS 1 3 62 Qs rfl (Fresh.of rfl) (nlr rfl)) ?_
 refine lp0 c.2.1.length (fun i=>⟨[(1,lP 0 0),(2,lf (.val (.slice none 0 0))),(3,lR 2),(8,lI (c.2.1.length:Int)),(9,lI (i:Int))],[bx 0 28 [.dat Ql c.1,.dat Qb c.2.1,.dat QA c.2.2],ar 2 62 Qs (Yv c (fun _ _=>true) i)]⟩) ?_ fun i _=> ?_
 exact wp [(2,1)] ⟨rfl,(Qm (rfl)),trivial⟩
 have C:=Qa8 (c:=c) (f:=fun _ _=>true) (i:=i) N
 refine w4 ?_
 cases v:(decide ((i:Int)<(c.2.1.length:Int)))
 have w:=aa v
 refine w7 ?_
 refine Qe<|fo_ L ?_
 (congr 1;omega)
 have w:=ab v
 refine w14 ?_
 refine Qu (fun E F=>∃(m:Int) (d:List (List Int)),E=((c.2.1.length:Int) - m).toNat∧((i:Int)+1≤m∧m≤(c.2.1.length:Int))∧(d=Yv c (fun _ _=>true) i++Wi c (fun _ _=>true) i m.toNat)∧F=⟨[(1,lP 0 0),(2,lf (.val (.slice none 0 0))),(3,lR 3),(4,lI (i:Int)),(5,lI m),(8,lI (c.2.1.length:Int)),(9,lI (i:Int)),(10,lB true),(11,lI (i:Int)),(12,lI (i:Int)),(13,lI ((i:Int)+1))],[bx 0 28 [.dat Ql c.1,.dat Qb c.2.1,.dat QA c.2.2],ar 3 62 Qs d]⟩) ⟨(i:Int)+1,Yv c (fun _ _=>true) i,rfl,(by omega),(by rw[show ((i:Int)+1).toNat=i+1 by omega,Qf7,br]),rfl⟩ ?_ ?_
 exact wp [(3,2)] ⟨rfl,(Qm (by first|rfl|simp)),trivial⟩
 rintro E F ⟨m,d,M,S,h,rfl⟩
 have O:d.length≤100000:=by rw[h,ah];have:=Qf6 (c:=c) (f:=fun _ _=>true) (i:=i) (k:=m.toNat);have:=C (by omega);omega
 refine w5 ?_
 refine alL 16 fun _=> ?_
 refine w3 ?_
 cases x:(decide (m<(c.2.1.length:Int)))
 have z:=aa x
 refine w6 ?_
 refine Qd ?_
 refine l0_ ?_
 exact wp [(2,3)] ⟨rfl,(Qm ((by rw[h];exact Qwb (by omega) (by omega)))),trivial⟩
 have z:=ab x
 refine w4 ?_
 obtain ⟨H,D⟩:=gx c.2.1 i
 have o:=D
 obtain ⟨I,A⟩:=gx c.2.1 ((m).toNat)
 have r:=A
 apply dW (i9 21 _ _ _ _ _ _ _ _ _ (i2 30 _ _ [])) [0,0,3,0,0,31,31,127,31,31,0]
 exact y11
 cases t:(decide (H=I))
 have u:=aa t
 refine w7 ?_
 refine Qd<|QV ⟨(m+1),d,rfl,(by omega),(by rw[h];first|exact QnD (by omega) r o ‹_› | exact QuK (by omega) r o ‹_›),rfl⟩ (by omega) ?_
 exact wo []
 have u:=ab t
 refine w5 ?_
 refine lc (dBs 4 (e:= .int) Xt) ?_
 refine lc (dBs 5 (e:=Qs) UU (hab:=by exact ⟨_,_,_,_,rfl,(.inl ⟨_,rfl,rfl,rfl⟩),⟨rfl,rfl⟩,rfl⟩)) ?_
 refine lc (dA 6 QeF) ?_
 refine w_ ?_
 refine Qd ?_
 refine w5 ?_
 refine Qd<|QV ⟨(m+1),(d++([[(i:Int),m]])),rfl,(by omega),(by rw[h];first|exact QnD (by omega) r o ‹_› | exact QuK (by omega) r o ‹_›),rfl⟩ (by omega) ?_
 exact wp [(3,6)] ⟨rfl,(Qm (by first|rfl|simp)),trivial⟩
theorem HT (c:ZM)(A:SgW c):FC Tryz.prog 129 [(true,[.dat Ql c.1,.dat Qb c.2.1,.dat QA c.2.2])] [] 0 (QK (lf (.dat Ji (QcS c)))):=by
 have V:∀a∈c.2.2,InR c.2.1.length a:=fun a K=>(A.arcs a K).1
 have N:=A.some_
 have M:=A.few
 have U:=A.sig8
 have P:=Qa8 (c:=c) (f:=fun _ _=>true) (i:=c.2.1.length) (by omega) (aO _)
 have O:=Y0 (ss:=c.1) (k:=c.1.length)
 refine Qj Tryz.func129 rfl rfl Tryz.ntmps129 fun S J R G T I H=> ?_
 refine w_ ?_
 refine xbx 0 ?_
 refine w6 ?_
 refine YC<|AC.wk (Wk.nilS 1 3 62 Qs rfl (Fresh.of rfl) (nlr rfl))<|AC.wk (Wk.toFz (q:=1) rfl) ?_
 refine w2 ?_
 refine lc (dK (Qdm c (by omega)).frozen Qlz) ?_
 refine alL 10 fun _=> ?_
 refine w4 ?_
 refine lp0 ((Yv c (fun _ _=>true) c.2.1.length).length) (fun k=>⟨[(1,lP 0 0),(2,lf (.val (.slice none 0 0))),(3,lR 2),(10,lf (.dat Ji (Yv c (fun _ _=>true) c.2.1.length))),(11,lI ((Yv c (fun _ _=>true) c.2.1.length).length:Int)),(12,lI (k:Int))],[bx 0 28 [.dat Ql c.1,.dat Qb c.2.1,.dat QA c.2.2],(2,some (.fz 62 Qs (((Yv c (fun _ _=>true) c.2.1.length).take k).filter (Qo3 c))))]⟩) ?_ fun k _=> ?_
 exact wp [(2,1)] ⟨rfl,(QwU (rfl)),trivial⟩
 have L:=cq (Qo3 c) ((Yv c (fun _ _=>true) c.2.1.length).take k)
 have Q:((Yv c (fun _ _=>true) c.2.1.length).take k).length≤(Yv c (fun _ _=>true) c.2.1.length).length:=by simp only[ap];omega
 refine w4 ?_
 cases u:(decide ((k:Int)<((Yv c (fun _ _=>true) c.2.1.length).length:Int)))
 have w:=aa u
 refine w7 ?_
 refine AC.wk (QkK (i:=2) (q:=2) rfl rfl)<|Qe<|fq_ J ?_
 first|(rw[ZD (by omega)];exact Qrs)
 have w:=ab u
 refine w5 ?_
 obtain ⟨C,o⟩:=gx (Yv c (fun _ _=>true) c.2.1.length) k
 obtain ⟨r,t,d⟩:=Qvo o
 have F:C.length=2:=by rw[d];rfl
 refine w10 ?_
 refine lc (dK (Je c (by omega)).frozen QeK) ?_
 refine alL 17 fun _=> ?_
 refine w4 ?_
 refine lp0 ((QD c.1 c.1.length).length) (fun j=>⟨[(1,lP 0 0),(2,lf (.val (.slice none 0 0))),(3,lR 2),(5,lf (.dat Qs C)),(6,lB (((QD c.1 c.1.length).take j).any (fun s=> !(QW c (r:Int) s==QW c (t:Int) s)))),(10,lf (.dat Ji (Yv c (fun _ _=>true) c.2.1.length))),(11,lI ((Yv c (fun _ _=>true) c.2.1.length).length:Int)),(12,lI (k:Int)),(13,lB true),(14,lf (.elt Qs C 0)),(15,lf (.dat Qs C)),(16,ag [.dat Ql c.1,.dat Qb c.2.1,.dat QA c.2.2]),(17,lf (.dat Qs (QD c.1 c.1.length))),(18,lI ((QD c.1 c.1.length).length:Int)),(19,lI (j:Int))],[bx 0 28 [.dat Ql c.1,.dat Qb c.2.1,.dat QA c.2.2],(2,some (.fz 62 Qs (((Yv c (fun _ _=>true) c.2.1.length).take k).filter (Qo3 c))))]⟩) ?_ fun j _=> ?_
 exact Wk.of [] rfl ⟨rfl,rfl,rfl,rfl,(show some (lB false)=some (lB (((QD c.1 c.1.length).take 0).any (fun s=> !(QW c (r:Int) s==QW c (t:Int) s)))) from congrArg (fun z_=>some (lB z_)) (rfl)),rfl,rfl,rfl,rfl,rfl,rfl,rfl,rfl,rfl,rfl,trivial⟩ ⟨rfl,rfl,trivial⟩ rfl rfl
 refine w4 ?_
 cases x:(decide ((j:Int)<((QD c.1 c.1.length).length:Int)))
 have z:=aa x
 refine w6 ?_
 cases D:(((QD c.1 c.1.length).take j).any (fun s=> !(QW c (r:Int) s==QW c (t:Int) s)))
 refine w6 ?_
 refine Qd ?_
 refine l0_ ?_
 exact wp [] ⟨rfl,(QwU (by first|exact Qik o (Qbf (k:=j) d (by omega) ‹_›)|exact Qmo o (Qbf (k:=j) d (by omega) ‹_›))),trivial⟩
 refine w4 ?_
 refine lc (QhV 3 Wm XK UU (Qn rfl) (by (rw[d];simp)) rfl (Fresh.of rfl) (nlr rfl))<|lc (Qgo 4 (Qa rfl) rfl (Qa rfl) rfl Wm QeF (by first|omega|(simp only[ah,aH,ap,av,aC];omega)|(simp only[ah,aX,ap,av,aC];omega)) rfl (Fresh.of rfl) (nlr rfl)) ?_
 refine w_ ?_
 refine Qd ?_
 refine w4 ?_
 refine Qd ?_
 refine l0_ ?_
 exact wp [(2,4)] ⟨rfl,(QwU (by first|exact Qik o (Qbf (k:=j) d (by omega) ‹_›)|exact Qmo o (Qbf (k:=j) d (by omega) ‹_›))),trivial⟩
 have z:=ab x
 refine w5 ?_
 obtain ⟨sg,e⟩:=gx (QD c.1 c.1.length) j
 refine w2 ?_
 refine alI 22 fun _=> ?_
 refine w2 ?_
 cases E:(((QD c.1 c.1.length).take j).any (fun s=> !(QW c (r:Int) s==QW c (t:Int) s)))
 apply dV (i4 23 _ _ _ _ (io 27 (lf (.elt .int (r:Int) 0))::i2 28 _ _ (io 30 (lB (QW c (r:Int) sg))::i2 31 _ _ (io 33 (lf (.elt .int (t:Int) 0))::i2 34 _ _ [io 36 (lB (QW c (t:Int) sg)),io 37 (lB (!((QW c (r:Int) sg)==(QW c (t:Int) sg)))),io 38 _,io 6 _])))) [0,0,0,4,4,4,60,0,252,508,508,508,4092,0,0,0,0]
 refine z4 ?_
 refine zz (fun _ h=>day rfl (h.k rfl) (Us (h.v rfl) (Qq rfl) YV Wl rfl (by omega) (by rw[d];rfl)) rfl) ?_
 refine z2 ?_
 refine zz (fun _ h=>day rfl (h.k rfl) (dK (Z7 c (r:Int) sg) VC) rfl) ?_
 refine z2 ?_
 refine zz (fun _ h=>day rfl (h.k rfl) (Us (h.v rfl) (Qq rfl) YV Wl rfl (by omega) (by rw[d];rfl)) rfl) ?_
 refine z2 ?_
 refine zz (fun _ h=>day rfl (h.k rfl) (dK (Z7 c (t:Int) sg) VC) rfl) ?_
 refine zz (fun _ h=>day rfl (h.k rfl) (Z0 (h.v rfl) (h.v rfl) rfl Y7) rfl) ?_
 exact y2
 refine w4 ?_
 refine Qd ?_
 refine l0_ ?_
 exact Wk.of [] rfl ⟨rfl,rfl,rfl,rfl,(show some (lB (!((QW c (r:Int) sg)==(QW c (t:Int) sg))))=some (lB (((QD c.1 c.1.length).take (j+1)).any (fun s=> !(QW c (r:Int) s==QW c (t:Int) s)))) from congrArg (fun z_=>some (lB z_)) (by first|exact Qq0 e ‹_› | exact QqZ e ‹_›)),rfl,rfl,rfl,rfl,rfl,rfl,rfl,rfl,rfl,rfl,trivial⟩ ⟨rfl,rfl,trivial⟩ rfl rfl
 apply dV (i9 23 _ _ _ _ _ _ _ _ _ (i7 32 _ _ _ _ _ _ _ [io 6 _])) [0,0,0,4,4,4,60,0,252,508,508,508,4092,0,0,0,0]
 refine z16 ?_
 exact y1
 refine w4 ?_
 refine Qd ?_
 refine l0_ ?_
 exact Wk.of [] rfl ⟨rfl,rfl,rfl,rfl,(show some (lB true)=some (lB (((QD c.1 c.1.length).take (j+1)).any (fun s=> !(QW c (r:Int) s==QW c (t:Int) s)))) from congrArg (fun z_=>some (lB z_)) (by first|exact Qq0 e ‹_› | exact QqZ e ‹_›)),rfl,rfl,rfl,rfl,rfl,rfl,rfl,rfl,rfl,rfl,trivial⟩ ⟨rfl,rfl,trivial⟩ rfl rfl
theorem HM (a:QuF):FC Tryz.prog 226 [(true,[dI a.1,dI a.2.1,dB a.2.2.1,dI a.2.2.2])] [] 0 (QK (lB (decide (a.2.1= -1)))):=by
 refine Qj Tryz.func226 rfl rfl Tryz.ntmps226 fun t o r d u h e=> ?_
 refine acG 0 0 fun _=> ?_
 refine acG 0 1 fun _=> ?_
 refine acG 0 3 fun _=> ?_
 refine w_ ?_
 refine xbx 0 ?_
 refine w8 ?_
 refine Qe<|fqB o ?_
 rfl
theorem JK (l:QrD):FC Tryz.prog 174 [(false,[.dat QA l]),(false,[.clo 226 []])] [] 0 (QK (lI (Zf (fun a:DAr=>decide (a.2.1= -1)) l))):=by
 refine Qj Tryz.func174 rfl rfl Tryz.ntmps174 fun C v A w D z x=> ?_
 refine w6 ?_
 refine alL 6 fun _=> ?_
 refine w4 ?_
 refine lpK l.length (fun k=>NoneTo (fun a:DAr=>decide (a.2.1= -1)) l k) (fun k=>⟨[(0,lf (.dat QA l)),(1,lf (.clo 226 [])),(7,lI (l.length:Int)),(8,lI (k:Int))],[]⟩) (NoneTo.zero) ?_ fun k _ d=> ?_
 exact wo []
 refine w4 ?_
 cases h:(decide ((k:Int)<(l.length:Int)))
 have o:=aa h
 refine w6 ?_
 refine Qe<|fqI v ?_
 first|exact (d.no (by omega)).symm
 have o:=ab h
 refine w12 ?_
 obtain ⟨e,u⟩:=gx l k
 refine w2 ?_
 refine lc (Q3 (args0:=[(true,[dI e.1,dI e.2.1,dB e.2.2.1,dI e.2.2.2])]) (caps:=[]) 0 [] (HM e) QlI rfl (Qa rfl) rfl rfl ⟨_,_,rfl,(Qn rfl),rfl⟩ trivial rfl trivial (nlr rfl)) ?_
 refine w_ ?_
 cases r:(decide (e.2.1= -1))
 have t:=aa r
 refine w6 ?_
 refine Qd ?_
 refine lK_ (d.step u (by first|assumption|(simp[*];done))) ?_
 exact wo []
 have t:=ab r
 refine w5 ?_
 refine Qe<|fqI v ?_
 exact (d.at u (by first|assumption|(simp[*];done))).symm
theorem UZ (l:QrD):FC Tryz.prog 95 [(false,[.dat QA l]),(false,[.clo 226 []])] [] 0 (QK (lB (l.any (fun a:DAr=>decide (a.2.1= -1))))):=by
 refine Qj Tryz.func95 rfl rfl Tryz.ntmps95 fun t o r d u h e=> ?_
 refine w6 ?_
 refine lc (dK (JK l) QeS) ?_
 refine w3 ?_
 refine Qe<|fqB o ?_
 exact Xm _ _
theorem Qbm (c:ZM)(d:SgW c):FC Tryz.prog 152 [(true,[.dat Ql c.1,.dat Qb c.2.1,.dat QA c.2.2])] [] 0 (QK (lf (dS (YG c)))):=by
 have o:∀a∈c.2.2,InR c.2.1.length a:=fun a h=>(d.arcs a h).1
 have x:=d.some_
 have w:=d.few
 have D:=d.sig8
 refine Qj Tryz.func152 rfl rfl Tryz.ntmps152 fun A e z r C u t=> ?_
 refine w_ ?_
 refine xbx 0 ?_
 refine w7 ?_
 refine lc (UV (UZ c.2.2) Qg9 ⟨_,_,rfl,(Qn rfl),⟨_,_,rfl,(Evl.ev QqA),rfl⟩⟩ rfl rfl) ?_
 refine w2 ?_
 cases v:(c.2.2.any (fun a:DAr=>decide (a.2.1= -1)))
 refine w3 ?_
 refine lc (dK (Qda c (by omega) (fun a h=>QmG (d.arcs a h).2)).frozen Qpt) ?_
 refine alL 9 fun _=> ?_
 refine w4 ?_
 refine cd_ (fun _ _=> ?_) fun _ _=> ?_
 refine w2 ?_
 refine lc (dK (QaC c d).frozen QlJ) ?_
 refine alL 14 fun _=> ?_
 refine w4 ?_
 refine cd_ (fun _ _=> ?_) fun _ _=> ?_
 refine w2 ?_
 refine lc (dK (Qbl c d) QlK) ?_
 refine alL 19 fun _=> ?_
 refine w4 ?_
 refine cd_ (fun _ _=> ?_) fun _ _=> ?_
 refine w5 ?_
 refine Qe<|fqS e ?_
 exact QAm ‹_› ‹_› (Qrg o ‹_›) ‹_›
 refine w3 ?_
 refine Qe<|fqS e ?_
 exact QAl ‹_› ‹_› (Qrg o ‹_›) ‹_›
 refine w3 ?_
 refine Qe<|fqS e ?_
 exact QAk ‹_› ‹_› (QwB o ‹_›)
 refine w3 ?_
 refine Qe<|fqS e ?_
 exact QAj ‹_› ‹_›
 refine w4 ?_
 refine Qe<|fqS e ?_
 exact QAi ‹_›
theorem Qco (c:ZM)(C:∀a∈c.2.2,-1≤a.2.1):FC Tryz.prog 126 [(true,[.dat Ql c.1,.dat Qb c.2.1,.dat QA c.2.2])] [] 0 (QK (lB (Qim c))):=by
 refine Qj Tryz.func126 rfl rfl Tryz.ntmps126 fun F u D w G z x=> ?_
 refine w_ ?_
 refine xbx 0 ?_
 refine w6 ?_
 refine alL 6 fun _=> ?_
 refine w4 ?_
 refine lpK c.2.2.length (fun k=>∀j,j<k→∀a,c.2.2[j]? =some a→¬a.2.1<0) (fun k=>⟨[(6,lf (.dat QA c.2.2)),(7,lI (c.2.2.length:Int)),(8,lI (k:Int))],[]⟩) ((fun j A=>absurd A (aV j))) ?_ fun k _ t=> ?_
 exact wo []
 refine w4 ?_
 cases e:(decide ((k:Int)<(c.2.2.length:Int)))
 have h:=aa e
 refine w6 ?_
 refine Qe<|fqB u ?_
 first|exact Qxe t (by omega)
 have h:=ab e
 refine w5 ?_
 obtain ⟨E,d⟩:=gx c.2.2 k
 have v:=Qgl C d
 refine w2 ?_
 refine lc (xal 1 Yq YJ) ?_
 refine w5 ?_
 refine alI 13 fun _=> ?_
 refine w2 ?_
 cases o:(decide (E.2.1<0))
 have r:=aa o
 refine w6 ?_
 refine Qd ?_
 refine lK_ ((YM t d ‹_›)) ?_
 exact wo []
 have r:=ab o
 refine w4 ?_
 refine Qe<|fqB u ?_
 exact Qu2 d ‹_› ‹_›
theorem H5 (c:ZM)(d:SgW c):FC Tryz.prog 52 [(true,[.dat Ql c.1,.dat Qb c.2.1,.dat QA c.2.2])] [] 0 (QK (lf (dS (YG c)))):=by
 have C:∀a∈c.2.2,InR c.2.1.length a:=fun a h=>(d.arcs a h).1
 have v:=d.some_
 have u:=d.few
 have A:=d.sig8
 refine Qj Tryz.func52 rfl rfl Tryz.ntmps52 fun x e w o z t r=> ?_
 refine w_ ?_
 refine xbx 0 ?_
 refine w6 ?_
 refine lc (dK (Qco c (fun a h=>QmG (d.arcs a h).2)) Qk9) ?_
 refine w2 ?_
 refine cb_ (fun _=> ?_) fun _=> ?_
 refine w2 ?_
 refine lc (dK (Qfx c (by omega) (fun a h=>QmG (d.arcs a h).2)).frozen Qla) ?_
 refine alL 8 fun _=> ?_
 refine w4 ?_
 refine cd_ (fun _ _=> ?_) fun _ _=> ?_
 refine w2 ?_
 refine lc (dK (Qcn c d).frozen Qlb) ?_
 refine alL 13 fun _=> ?_
 refine w4 ?_
 refine cd_ (fun _ _=> ?_) fun _ _=> ?_
 refine w2 ?_
 refine lc (dK (HT c d) Qlc) ?_
 refine alL 18 fun _=> ?_
 refine w4 ?_
 refine cd_ (fun _ _=> ?_) fun _ _=> ?_
 refine w5 ?_
 refine Qe<|fqS e ?_
 exact QAm ‹_› ‹_› ‹_› ‹_›
 refine w3 ?_
 refine Qe<|fqS e ?_
 exact QAl ‹_› ‹_› ‹_› ‹_›
 refine w3 ?_
 refine Qe<|fqS e ?_
 exact QAk ‹_› ‹_› ‹_›
 refine w3 ?_
 refine Qe<|fqS e ?_
 exact QAj ‹_› ‹_›
 refine w3 ?_
 refine Qe<|fqS e ?_
 exact QAi ‹_›
theorem Qcb (c:ZM)[∀c,Decidable (SgOk c)]:FC Tryz.prog 72 [(true,[.dat Ql c.1,.dat Qb c.2.1,.dat QA c.2.2])] [] 0 (QK (PV.tup [(false,[dS (if SgOk c then YG c else ⟨#[]⟩)]),(false,[dB (decide (SgOk c))])])):=by
 refine Qj Tryz.func72 rfl rfl Tryz.ntmps72 fun D o C r E A z=> ?_
 refine w_ ?_
 refine xbx 0 ?_
 refine w6 ?_
 refine lc (dK (Yx c) Qb8) ?_
 refine w2 ?_
 cases d:(decide (SgOk c))
 have h:=aa d
 refine w6 ?_
 have t:((⟨#[]⟩:ByteArray):ByteArray)=(if SgOk c then YG c else ⟨#[]⟩):=by
  (simp[*];done)
 have u:(false:Bool)=(decide (SgOk c)):=by
  (simp[*];done)
 exact fr_ o (e:=((congrArg (fun z_=>PV.tup [(false,[dS z_]),(false,[dB false])]) t)).trans (congrArg (fun z_=>PV.tup [(false,[dS (if SgOk c then YG c else ⟨#[]⟩)]),(false,[dB z_])]) u))
 have h:=ab d
 refine w4 ?_
 refine lc (dK (Qbm c (by assumption:SgOk c).w) Qlo) ?_
 refine w4 ?_
 have v:(YG c:ByteArray)=(if SgOk c then YG c else ⟨#[]⟩):=by
  (simp[*];done)
 have x:(true:Bool)=(decide (SgOk c)):=by
  (simp[*];done)
 exact fr_ o (e:=((congrArg (fun z_=>PV.tup [(false,[dS z_]),(false,[dB true])]) v)).trans (congrArg (fun z_=>PV.tup [(false,[dS (if SgOk c then YG c else ⟨#[]⟩)]),(false,[dB z_])]) x))
theorem YN (c:ZM)[∀c,Decidable (SgOk c)]:FC Tryz.prog 15 [(true,[.dat Ql c.1,.dat Qb c.2.1,.dat QA c.2.2])] [] 0 (QK (PV.tup [(false,[dB (decide ((if SgOk c then YG c else ⟨#[]⟩)=YY))]),(false,[dB (decide (SgOk c))])])):=by
 refine Qj Tryz.func15 rfl rfl Tryz.ntmps15 fun v t u d w r o=> ?_
 refine w_ ?_
 refine xbx 0 ?_
 refine w5 ?_
 refine lc (dK (Qcb c) Qpp) ?_
 refine w14 ?_
 have h:(decide ((if SgOk c then YG c else ⟨#[]⟩)=(⟨#[109,97,100,101]⟩:ByteArray)):Bool)=(decide ((if SgOk c then YG c else ⟨#[]⟩)=YY)):=by
  rfl
 exact fr_ t (e:=by rw[h] <;> rfl)
theorem Qwo {c:DSg}{sig:Int}{x:Qy}[Decidable (SgOk c)](h0:SgOk c)(h:0≤sig∧sig≤(c.1.length:Int) - 1)(d:c.1[sig.toNat]? =some x):(!decide (x.2=1))=decide (SgOk c∧(0≤sig∧sig≤(c.1.length:Int) - 1)∧XN c sig=false):=by
 rw[← QfE h.1 d];simp[h0,h]
theorem QzV {c:DSg}{sig:Int}[Decidable (SgOk c)](h:¬(0≤sig∧sig≤(c.1.length:Int) - 1)):false=decide (SgOk c∧(0≤sig∧sig≤(c.1.length:Int) - 1)∧XN c sig=false):=(ay fun g=>h g.2.1).symm
theorem QzU {c:DSg}{sig:Int}[Decidable (SgOk c)](h:¬SgOk c):false=decide (SgOk c∧(0≤sig∧sig≤(c.1.length:Int) - 1)∧XN c sig=false):=(ay fun g=>h g.1).symm
theorem Qcl (c:ZM)(sig:Int)[∀c,Decidable (SgOk c)]:FC Tryz.prog 263 [(true,[.dat Ql c.1,.dat Qb c.2.1,.dat QA c.2.2]),(false,[dI sig])] [] 0 (QK (lB (decide (SgOk c∧(0≤sig∧sig≤(c.1.length:Int) - 1)∧XN c sig=false)))):=by
 refine Qj Tryz.func263 rfl rfl Tryz.ntmps263 fun z r x u A w v=> ?_
 refine acI 1 fun _=> ?_
 refine w_ ?_
 refine xbx 0 ?_
 refine w4 ?_
 refine lc (dK (Wg c) Hq) ?_
 refine w_ ?_
 cases d:(decide (SgOk c))
 have e:=aa d
 refine w16 ?_
 refine w2 ?_
 refine Qe<|fqB r ?_
 exact QzU ‹_›
 have e:=ab d
 refine w3 ?_
 refine alL 10 fun _=> ?_
 refine w2 ?_
 refine lgy rfl rfl (dK (YA sig 0 ((c.1.length:Int) - 1)) Xj) ?_
 refine w2 ?_
 cases h:(decide (0≤sig∧sig≤((c.1.length:Int) - 1)))
 have o:=aa h
 refine w10 ?_
 refine Qe<|fqB r ?_
 exact QzV ‹_›
 have o:=ab h
 refine w3 ?_
 obtain ⟨C,t⟩:=gx c.1 ((sig).toNat)
 refine w7 ?_
 refine Qe<|fqB r ?_
 exact Qwo ‹_› ‹_› t
end Go.Proofs.YtjfpbcmfbnnooaaGreat
