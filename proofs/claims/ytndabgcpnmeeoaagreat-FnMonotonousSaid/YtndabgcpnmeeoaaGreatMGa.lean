/- Walks over abstract states: what speaks against an implementation, both sides. -/
import Derived.Test.YtndabgcpnmeeoaaGreatMEa
import Derived.Test.YtndabgcpnmeeoaaGreatMUd
import Derived.Test.YtndabgcpnmeeoaaGreatMAv
set_option linter.unusedSimpArgs false
set_option linter.unusedVariables false
set_option linter.unusedSectionVars false
namespace Go.Proofs.YtndabgcpnmeeoaaGreat
open Go.RowKit
set_option maxRecDepth 100000
set_option maxHeartbeats 4000000
def rg {β:Type}(f:Nat→Option β)(m:Nat):List β:=(List.range m).filterMap f
def rf {β:Type}(f:Nat→List β)(m:Nat):List β:=(List.range m).flatMap f
section
variable {β:Type}{f:Nat→Option β}{g:Nat→List β}{m n i j k b:Nat}{y:β}{B:List β}
theorem Yh (h:f m=some y):B++rg f m++[y]=B++rg f (m+1):=by
 unfold rg; rw[bY,List.filterMap_append]; simp[h]
theorem Zq (h:f m=none):rg f m=rg f (m+1):=by
 unfold rg; rw[bY,List.filterMap_append]; simp[h]
theorem V4:(rg f m).length≤m:=bu (List.length_filterMap_le ..) (by simp)
theorem Qok (h:∀j,j < m→f j=none):rg f m=[]:=by
 unfold rg; rw[List.filterMap_eq_nil_iff]; intro j d; exact h j (bD.1 d)
theorem K9:rf g i++g i=rf g (i+1):=by unfold rf; rw[bY,db]; simp
theorem QoD (h:∀i,(g i).length≤b):(rf g n).length≤n*b:=by
 induction n with
 | zero=>simp[rf]
 | succ n d=>rw[← K9,ai,Nat.succ_mul]; have:=h n; omega
theorem Qg0:y∈rg f m↔∃j,j < m∧f j=some y:=by unfold rg; rw[List.mem_filterMap]; simp
theorem QjR:rg f m=[]↔∀j,j < m→f j=none:=by unfold rg; rw[List.filterMap_eq_nil_iff]; simp
theorem QuG:rf g m=[]↔∀j,j < m→g j=[]:=by unfold rf; rw[List.flatMap_eq_nil_iff]; simp
end
def arA (as_:List DAr)(j:Nat):DAr:=(as_[j]?).getD (0,0,false,0)
theorem KS {as_:List DAr}{j:Nat}{a:DAr}(h:as_[j]? =some a):arA as_ j=a:=by unfold arA; rw[h]; rfl
def Qb1 (as_:List DAr)(i j:Nat):Option (List Int):=if i < j∧0≤(arA as_ i).2.1∧(arA as_ j).1=(arA as_ i).1∧(arA as_ j).2.1=(arA as_ i).2.1∧(arA as_ j).2.2.2≠(arA as_ i).2.2.2 then some [(i:Int),(j:Int)] else none
def Km (as_:List DAr)(i:Nat):List (List Int):=rf (fun i=>rg (Qb1 as_ i) as_.length) i
section
variable {as_:List DAr}{a b:DAr}{i j k m:Nat}{c:DSg}{s q:Int}
theorem Qo5 (r:as_[i]? =some a)(hb:as_[j]? =some b)(h:i < j)(h0:0≤a.2.1)(d:b.1=a.1)(e:b.2.1=a.2.1)(o:¬b.2.2.2=a.2.2.2):Qb1 as_ i j=some [(i:Int),(j:Int)]:=by
 unfold Qb1; rw[KS r,KS hb,if_pos ⟨h,h0,d,e,o⟩]
theorem VN (d:as_[i]? =some a)(hb:as_[j]? =some b)(h:¬(0≤a.2.1∧b.1=a.1∧b.2.1=a.2.1∧¬b.2.2.2=a.2.2.2)):Qb1 as_ i j=none:=by
 unfold Qb1; rw[KS d,KS hb,if_neg fun g=>h g.2]
theorem Qfy:rg (Qb1 as_ i) (i+1)=[]:=Qok fun j d=>if_neg fun g=>by omega
theorem QsY:(Km as_ i).length≤i*as_.length:=QoD fun _=>V4
theorem QmG (h:as_.length≤4000)(hi:i≤as_.length):(Km as_ i).length≤16000000:=bu QsY (bu (cQ (bu hi h) h) (by decide))
def Kj (c:DSg)(k s:Int)(a:DAr):Bool:= !decide (a.2.1=s)&&(!Zc c a.2.2.2 s&& !(QR c s&&QR c a.2.1))
def Qix (c:DSg)(k s:Int)(n:Nat):Option (Int×Int×Int):=if (arA c.2.2 n).1=k∧Kj c k s (arA c.2.2 n)=true then some (k,s,(n:Int)) else none
def Qhh (c:DSg)(ts:List Int)(k s:Int)(i:Nat):Option (Int×Int×Int):=match ts[i]? with
 | some q=>if Kj c k s (arA c.2.2 q.toNat)=true then some (k,s,q) else none
 | none=>none
def nxA (c:DSg)(k:Nat):List Int:=((Zp c.2.1.length (ixE c.2.2))[k]?).getD []
def Wx (c:DSg)(r:Nat→Nat→List (Int×Int×Int))(k j:Nat):List (Int×Int×Int):=rf (fun s=>if Zc c (k:Int) (s:Int)=true then r k s else []) j
def rwS (c:DSg)(k s:Nat):List (Int×Int×Int):=rg (Qix c k s) c.2.2.length
def rwI (c:DSg)(k s:Nat):List (Int×Int×Int):=rg (Qhh c (nxA c k) k s) (nxA c k).length
def X8 (c:DSg)(r:Nat→Nat→List (Int×Int×Int))(n:Nat):List (Int×Int×Int):=rf (fun k=>Wx c r k c.1.length) n
theorem YK (d:c.2.2[m]? =some a)(h:a.1=q)(hb:Kj c q s a=true):Qix c q s m=some (q,s,(m:Int)):=by unfold Qix; rw[KS d,if_pos ⟨h,hb⟩]
theorem ZD (d:c.2.2[m]? =some a)(h:¬(a.1=q∧Kj c q s a=true)):Qix c q s m=none:=by unfold Qix; rw[KS d,if_neg h]
theorem Xi {ts:List Int}{t:Int}(e:ts[m]? =some t)(d:c.2.2[t.toNat]? =some a)(hb:Kj c q s a=true):Qhh c ts q s m=some (q,s,t):=by
 unfold Qhh; rw[e]; show (if _ then _ else _)=_; rw[KS d,if_pos hb]
theorem YF {ts:List Int}{t:Int}(e:ts[m]? =some t)(d:c.2.2[t.toNat]? =some a)(hb:Kj c q s a=false):Qhh c ts q s m=none:=by
 unfold Qhh; rw[e]; show (if _ then _ else _)=_; rw[KS d,if_neg (by rw[hb]; decide)]
theorem Vi (h:a.2.1=s):Kj c q s a=false:=by unfold Kj; rw[aE h]; rfl
theorem VA (h:Zc c a.2.2.2 s=true):Kj c q s a=false:=by unfold Kj; rw[h]; simp
theorem Vg (h:QR c s=true)(d:QR c a.2.1=true):Kj c q s a=false:=by unfold Kj; rw[h,d]; simp
theorem Vx (h:¬a.2.1=s)(d:Zc c a.2.2.2 s=false)(e:QR c s=false):Kj c q s a=true:=by unfold Kj; rw[aB h,d,e]; rfl
theorem Vp (h:¬a.2.1=s)(d:Zc c a.2.2.2 s=false)(e:QR c a.2.1=false):Kj c q s a=true:=by unfold Kj; rw[aB h,d,e]; simp
theorem Qs8 {s k:Nat}:(rwS c k s).length≤c.2.2.length:=V4
theorem Qj8 {ts:List Int}(h:(Zp c.2.1.length (ixE c.2.2))[k]? =some ts):nxA c k=ts:=by unfold nxA; rw[h]; rfl
theorem Qsw {s k:Nat}(r:k < c.2.1.length):(rwI c k s).length≤c.2.2.length:=by
 obtain ⟨e,d⟩:∃e,(Zp c.2.1.length (ixE c.2.2))[k]? =some e:=⟨_,aj (by rw[Xp]; exact r)⟩
 have h:(rwI c k s).length≤(nxA c k).length:=V4
 have o:=Ux d
 rw[Qac] at o
 rw[Qj8 d] at h
 omega
theorem Qiv {r:Nat→Nat→List (Int×Int×Int)}(h:∀s,(r k s).length≤c.2.2.length):(Wx c r k j).length≤j*c.2.2.length:=QoD fun s=>by
 split
 ·exact h s
 ·exact aP _
theorem QpX {r:Nat→Nat→List (Int×Int×Int)}{n:Nat}(h:∀k s,k < n→(r k s).length≤c.2.2.length):(X8 c r n).length≤n*(c.1.length*c.2.2.length):=by
 induction n with
 | zero=>simp[X8,rf]
 | succ n e=>
  have o:=e fun k s u=>h k s (by omega)
  have t:(Wx c r n c.1.length).length≤c.1.length*c.2.2.length:=Qiv fun s=>h n s (by omega)
  have d:X8 c r n++Wx c r n c.1.length=X8 c r (n+1):=K9
  rw[← d,ai,Nat.succ_mul]; omega
theorem Ql3 (e:SgW c){r:Nat→Nat→List (Int×Int×Int)}{n:Nat}(D:n≤c.2.1.length)(C:j≤c.1.length)(h:∀k s,k < c.2.1.length→(r k s).length≤c.2.2.length):(X8 c r n).length≤9600000∧(k < c.2.1.length→(Wx c r k j).length≤32000):=by
 have u:=e.sig8; have v:=e.some_; have d:=e.few
 have w:=QpX (c:=c) (r:=r) (n:=n) fun k s o=>h k s (by omega)
 have t:c.1.length*c.2.2.length≤8*4000:=cQ u d
 have x:n*(c.1.length*c.2.2.length)≤300*(8*4000):=cQ (by omega) t
 refine ⟨by omega,fun o=> ?_⟩
 have z:(Wx c r k j).length≤j*c.2.2.length:=Qiv fun s=>h k s o
 have A:j*c.2.2.length≤8*4000:=cQ (by omega) d
 omega
theorem QeT {r:Nat→Nat→List (Int×Int×Int)}(h:c.1.length≤j)(d:j≤c.1.length):X8 c r k++Wx c r k j=X8 c r (k+1):=by
 obtain rfl:j=c.1.length:=by omega
 exact K9
theorem Qb9 {r:Nat→Nat→List (Int×Int×Int)}{L:List (Int×Int×Int)}(h:Zc c (k:Int) (j:Int)=false):L++Wx c r k j=L++Wx c r k (j+1):=by
 have:Wx c r k j++(if Zc c (k:Int) (j:Int)=true then r k j else [])=Wx c r k (j+1):=K9
 rw[← this,if_neg (by rw[h]; decide),bE]
theorem QhW {r:Nat→Nat→List (Int×Int×Int)}{L:List (Int×Int×Int)}(h:Zc c (k:Int) (j:Int)=true):L++Wx c r k j++r k j=L++Wx c r k (j+1):=by
 have:Wx c r k j++(if Zc c (k:Int) (j:Int)=true then r k j else [])=Wx c r k (j+1):=K9
 rw[← this,if_pos h,aU]
theorem QeN {L:List (Int×Int×Int)}{i:Nat}(h:Zc c (k:Int) (j:Int)=true)(hi:c.2.2.length≤i)(d:i≤c.2.2.length):L++Wx c (rwS c) k j++rg (Qix c k j) i=L++Wx c (rwS c) k (j+1):=by
 obtain rfl:i=c.2.2.length:=by omega
 exact QhW (r:=rwS c) h
theorem QfP {L:List (Int×Int×Int)}{i:Nat}{ts:List Int}(h:Zc c (k:Int) (j:Int)=true)(o:(Zp c.2.1.length (ixE c.2.2))[k]? =some ts)(hi:ts.length≤i)(d:i≤ts.length):L++Wx c (rwI c) k j++rg (Qhh c ts k j) i=L++Wx c (rwI c) k (j+1):=by
 obtain rfl:i=ts.length:=by omega
 have e:rg (Qhh c ts k j) ts.length=rwI c k j:=by unfold rwI; rw[Qj8 o]
 rw[e]; exact QhW (r:=rwI c) h
theorem Qlg (e:∀a∈c.2.2,InR c.2.1.length a)(h0:0≤q∧q < (c.2.1.length:Int))(o:0≤s){y:Int}(r:(Xs c.2.1.length c.2.2)[q.toNat]? =some y):decide ((((y / 2 ^ (2*s).toNat).toNat &&& (3:Int).toNat:Nat):Int)=0)= !Zc c q s:=by
 have h:=KN (c:=c) (k:=q.toNat) (s:=s) (fun a d=>(e a d).1.1) (by omega) o
 rw[show ((q.toNat:Nat):Int)=q by omega] at h
 rw[W5 r] at h
 exact h
theorem U8 (d:∀a∈c.2.2,InR c.2.1.length a)(h0:0≤q∧q < (c.2.1.length:Int))(e:0≤s){y:Int}(o:(Xs c.2.1.length c.2.2)[q.toNat]? =some y)(h:(((y / 2 ^ (2*s).toNat).toNat &&& (3:Int).toNat:Nat):Int)=0):Zc c q s=false:=by
 have:=Qlg d h0 e o
 rw[aE h] at this
 simpa using this.symm
theorem Qep (d:∀a∈c.2.2,InR c.2.1.length a)(h0:0≤q∧q < (c.2.1.length:Int))(e:0≤s){y:Int}(o:(Xs c.2.1.length c.2.2)[q.toNat]? =some y)(h:¬(((y / 2 ^ (2*s).toNat).toNat &&& (3:Int).toNat:Nat):Int)=0):Zc c q s=true:=by
 have:=Qlg d h0 e o
 rw[aB h] at this
 simpa using this.symm
theorem Qir {k s:Nat}(E:∀a∈c.2.2,InR c.2.1.length a)(D:k < c.2.1.length):rwI c k s=[]↔rwS c k s=[]:=by
 obtain ⟨o,e⟩:∃o,(Zp c.2.1.length (ixE c.2.2))[k]? =some o:=⟨_,aj (by rw[Xp]; exact D)⟩
 have z:∀x,x∈o↔_:=fun x=>Qe4 (x:=x) (fun a d=>(E a d).1.1) e
 unfold rwI rwS
 rw[Qj8 e,QjR,QjR]
 constructor
 ·intro h m v
  have d:c.2.2[m]? =some c.2.2[m]:=aj v
  by_cases r:c.2.2[m].1=(k:Int)
  ·obtain ⟨i,u⟩:=aL.1 ((z (m:Int)).2 ⟨m,_,d,r,rfl⟩)
   have t:=h i (ah.1 u).1
   refine ZD d fun g=> ?_
   rw[Xi u (by simp) g.2] at t
   cases t
  ·exact ZD d fun g=>r g.1
 ·intro h i u
  have A:o[i]? =some o[i]:=aj u
  obtain ⟨j,a,d,r,t⟩:=(z _).1 (ae A)
  have w:=h j (ah.1 d).1
  refine YF A (a:=a) (by rw[t]; simpa using d) ?_
  cases C:Kj c k s a with
  | false=>rfl
  | true=>rw[YK d r C] at w; cases w
theorem Qiq (t:∀a∈c.2.2,InR c.2.1.length a):decide (0 < ((X8 c (rwI c) c.2.1.length).length:Int))=decide (0 < ((X8 c (rwS c) c.2.1.length).length:Int)):=by
 have h:X8 c (rwI c) c.2.1.length=[]↔X8 c (rwS c) c.2.1.length=[]:=by
  unfold X8 Wx
  simp only[QuG]
  constructor
  ·intro h k o s r
   have:=h k o s r
   split at this
   ·rename_i d; rw[if_pos d]; exact (Qir t o).1 this
   ·rename_i d; rw[if_neg d]
  ·intro h k o s r
   have:=h k o s r
   split at this
   ·rename_i d; rw[if_pos d]; exact (Qir t o).2 this
   ·rename_i d; rw[if_neg d]
 have e:∀l:List (Int×Int×Int),decide (0 < (l.length:Int))= !decide (l=[]):=fun l=>by cases l <;> simp
 rw[e,e]
 congr 1
 exact bX.2 h
end
def Qhf (c:DSg):Bool:=c.2.2.any fun a=>decide (a.2.1= -1)
abbrev QB:ByteArray:=⟨#[109,97,100,101]⟩
def QL (c:DSg):ByteArray:=if Qhf c=true then ⟨#[104,105,100,100,101,110]⟩ else if 0 < ((Km c.2.2 c.2.2.length).length:Int) then ⟨#[116,119,111,32,119,97,121,115]⟩ else if 0 < ((X8 c (rwS c) c.2.1.length).length:Int) then ⟨#[98,114,101,97,107]⟩ else if 0 < ((QbF c).length:Int) then ⟨#[99,111,110,102,108,105,99,116]⟩ else QB
section
variable {c:DSg}{as_:List DAr}{a:DAr}{i j k:Nat}{m s q:Int}{l:List Int}{p:List Int}
theorem Qxk (h:Qhf c=true):(⟨#[104,105,100,100,101,110]⟩:ByteArray)=QL c:=by unfold QL; rw[if_pos h]
theorem Qxl (h:Qhf c=false)(d:0 < ((Km c.2.2 c.2.2.length).length:Int)):(⟨#[116,119,111,32,119,97,121,115]⟩:ByteArray)=QL c:=by unfold QL; rw[if_neg (by rw[h]; decide),if_pos d]
theorem Qwm (h:Qhf c=false)(d:¬0 < ((Km c.2.2 c.2.2.length).length:Int))(e:0 < ((X8 c (rwS c) c.2.1.length).length:Int)):(⟨#[98,114,101,97,107]⟩:ByteArray)=QL c:=by
 unfold QL; rw[if_neg (by rw[h]; decide),if_neg d,if_pos e]
theorem QvX (h:Qhf c=false)(d:¬0 < ((Km c.2.2 c.2.2.length).length:Int))(e:¬0 < ((X8 c (rwS c) c.2.1.length).length:Int))(o:0 < ((QbF c).length:Int)):(⟨#[99,111,110,102,108,105,99,116]⟩:ByteArray)=QL c:=by
 unfold QL; rw[if_neg (by rw[h]; decide),if_neg d,if_neg e,if_pos o]
theorem Qw8 (h:Qhf c=false)(d:¬0 < ((Km c.2.2 c.2.2.length).length:Int))(e:¬0 < ((X8 c (rwS c) c.2.1.length).length:Int))(o:¬0 < ((QbF c).length:Int)):QB=QL c:=by
 unfold QL; rw[if_neg (by rw[h]; decide),if_neg d,if_neg e,if_neg o]
theorem QuN (d:∀a∈c.2.2,InR c.2.1.length a)(h:0 < ((X8 c (rwI c) c.2.1.length).length:Int)):0 < ((X8 c (rwS c) c.2.1.length).length:Int):=by
 have:=Qiq d; rw[aE h] at this; exact ab this.symm
theorem QoE (d:∀a∈c.2.2,InR c.2.1.length a)(h:¬0 < ((X8 c (rwI c) c.2.1.length).length:Int)):¬0 < ((X8 c (rwS c) c.2.1.length).length:Int):=by
 have:=Qiq d; rw[aB h] at this; exact aa this.symm
theorem Qsq (d:c.2.2[k]? =some a)(h:a.2.1 < 0)(e: -1≤a.2.1):true=Qhf c:=(bC.2 ⟨a,ae d,aE (by omega)⟩).symm
theorem Qu7 (h:∀j,j < k→∀a,c.2.2[j]? =some a→¬a.2.1 < 0)(t:c.2.2.length≤k):false=Qhf c:=(cr.2 fun a e=>by
 obtain ⟨j,d⟩:=aL.1 e
 have o:=(ah.1 d).1
 have r:=h j (by omega) a d
 simp only[aT]
 omega).symm
theorem QkG {n:Int}{l:Int×Bool}(h:UM n l): -1≤l.1:=by
 rcases h with h | h <;> omega
theorem QdM (d:∀a∈as_, -1≤a.2.1)(e:as_[k]? =some a): -1≤a.2.1:=d a (ae e)
theorem Qpz {β:Type}{B:List β}{f:Nat→Option β}{y:β}{out:List β}(h:0≤m)(e:out=B++rg f m.toNat)(d:f m.toNat=some y):out++[y]=B++rg f (m+1).toNat:=by
 rw[show (m+1).toNat=m.toNat+1 by omega,e]; exact Yh d
theorem QbG {β:Type}{B:List β}{f:Nat→Option β}{out:List β}(h:0≤m)(e:out=B++rg f m.toNat)(d:f m.toNat=none):out=B++rg f (m+1).toNat:=by
 rw[show (m+1).toNat=m.toNat+1 by omega,e,Zq d]
theorem QoP (d:m≤(as_.length:Int))(e:¬m < (as_.length:Int)):Km as_ i++rg (Qb1 as_ i) m.toNat=Km as_ (i+1):=by
 rw[show m.toNat=as_.length by omega]; exact K9
theorem QoR {b:DAr}(d:0≤m)(t:as_[i]? =some a)(hb:as_[m.toNat]? =some b)(h:(i:Int) < m)(h0:0≤a.2.1)(e:b.1=a.1)(o:b.2.1=a.2.1)(r:¬b.2.2.2=a.2.2.2):Qb1 as_ i m.toNat=some [(i:Int),m]:=by
 rw[Qo5 t hb (by omega) h0 e o r,show ((m.toNat:Nat):Int)=m by omega]
theorem QfB (d:k < c.1.length)(h:QR c (k:Int)=false):Qy c.1 k++[(k:Int)]=Qy c.1 (k+1):=by
 have e:c.1[k]? =some c.1[k]:=aj d
 refine QaS e fun g=> ?_
 rw[← J7 (c:=c) (sig:=(k:Int)) (x:=c.1[k]) (by omega) (by simp),aE g] at h
 cases h
theorem Qh5 (d:k < c.1.length)(h:QR c (k:Int)=true):Qy c.1 k=Qy c.1 (k+1):=by
 have e:c.1[k]? =some c.1[k]:=aj d
 refine QcQ e ?_
 rw[← J7 (c:=c) (sig:=(k:Int)) (x:=c.1[k]) (by omega) (by simp)] at h
 exact ab h
theorem Qpy {α:Type}{l:List α}{f:α→Bool}{x:α}(d:l[k]? =some x)(h:(l.take k).any f=true):true=(l.take (k+1)).any f:=by rw[Qw d,List.any_append,h]; rfl
theorem Qoq {α:Type}{l:List α}{f:α→Bool}{x:α}(d:l[k]? =some x)(h:(l.take k).any f=false):f x=(l.take (k+1)).any f:=by rw[Qw d,List.any_append,h]; simp
theorem Qmb {α:Type}{l:List α}{f:α→Bool}{x:α}(d:l[k]? =some x)(h:f x=true):(l.take k).filter f++[x]=(l.take (k+1)).filter f:=by rw[Qw d,bz]; simp[h]
theorem Qoc {α:Type}{l:List α}{f:α→Bool}{x:α}(d:l[k]? =some x)(h:f x=false):(l.take k).filter f=(l.take (k+1)).filter f:=by rw[Qw d,bz]; simp[h]
def QnB (c:DSg)(p:List Int):Bool:=Qrk c (mAt p 0).toNat (mAt p 1).toNat
theorem Qmz (h:p=[(i:Int),(j:Int)]):QnB c p=Qrk c i j:=by subst h; rfl
theorem Qaz {b:Bool}(h:p=[(i:Int),(j:Int)])(e:(Qy c.1 c.1.length).length≤k)(d:((Qy c.1 c.1.length).take k).any (fun s=> !(Zc c (i:Int) s==Zc c (j:Int) s))=b):QnB c p=b:=by
 rw[Za e] at d
 rw[Qmz h]; exact d
theorem Qpn:(Yq c (fun _ _=>true) c.2.1.length).filter (QnB c)=QbF c:=by
 rw[Qby]
 exact QcT fun i j _ _=>by rw[Qmz rfl]; simp
theorem QsI (h:(Yq c (fun _ _=>true) c.2.1.length)[k]? =some p):∃i j:Nat,p=[(i:Int),(j:Int)]:=by
 have h:=ae h
 unfold Yq at h
 obtain ⟨i,o,h⟩:=cH.1 h
 obtain ⟨j,d,e,rfl⟩:=Qh0 h
 exact ⟨i,j,rfl⟩
end
theorem JG (a:QnF)(q:Int)(sig:Int):FC Tryz.prog 321 [(true,[dI a.1,dI a.2.1,dB a.2.2.1,dI a.2.2.2]),(false,[.ptr 0 0]),(false,[.ptr 1 0])] [bx 0 3 [dI q],bx 1 3 [dI sig]] 2 (Is (lB (decide (a.1=q∧a.2.1=sig))) [bx 0 3 [dI q],bx 1 3 [dI sig]]):=by
 refine Qp Tryz.func321 rfl rfl Tryz.ntmps321 fun x h w o z v u=> ?_
 refine acG 0 0 fun _=> ?_
 refine acG 0 1 fun _=> ?_
 refine acG 0 3 fun _=> ?_
 refine w_ ?_
 refine xbx 2 ?_
 refine w6 ?_
 refine alI 7 fun _=> ?_
 refine w2 ?_
 cases d:(decide (a.1=q))
 have e:=aa d
 refine w8 ?_
 have r:(false:Bool)=(decide (a.1=q∧a.2.1=sig)):=by
  (simp_all; done)
 exact fi_ [] h ⟨rfl,rfl,trivial⟩ (h0:=by rw[← r] <;> rfl)
 have e:=ab d
 refine w8 ?_
 have t:(decide (a.2.1=sig):Bool)=(decide (a.1=q∧a.2.1=sig)):=by
  (simp_all; done)
 exact fi_ [] h ⟨rfl,rfl,trivial⟩ (h0:=by rw[t] <;> rfl)
theorem KQ (l:Qq1)(q:Int)(sig:Int):FC Tryz.prog 340 [(false,[.dat Qv l]),(false,[.clo 321 [0,1]])] [bx 0 3 [dI q],bx 1 3 [dI sig]] 2 (Is (lI (ZO (fun a:DAr=>decide (a.1=q∧a.2.1=sig)) l)) [bx 0 3 [dI q],bx 1 3 [dI sig]]):=by
 refine Qp Tryz.func340 rfl rfl Tryz.ntmps340 fun E v D w F C A=> ?_
 refine w6 ?_
 refine alL 6 fun _=> ?_
 refine w4 ?_
 refine lpK l.length (fun k=>NoneTo (fun a:DAr=>decide (a.1=q∧a.2.1=sig)) l k) (fun k=>⟨[(0,lf (.dat Qv l)),(1,lf (.clo 321 [0,1])),(7,lI (l.length:Int)),(8,lI (k:Int))],[bx 0 3 [dI q],bx 1 3 [dI sig]]⟩) (NoneTo.zero) ?_ fun k _ d=> ?_
 exact wo []
 refine w4 ?_
 cases h:(decide ((k:Int) < (l.length:Int)))
 have o:=aa h
 refine w7 ?_
 have x:((-1):Int)=(ZO (fun a:DAr=>decide (a.1=q∧a.2.1=sig)) l):=by
  first | exact (d.no (by omega)).symm
 exact fi_ [] v ⟨rfl,rfl,trivial⟩ (h0:=by rw[← x] <;> rfl)
 have o:=ab h
 refine w12 ?_
 obtain ⟨e,u⟩:=gx l k
 refine w2 ?_
 refine lc (Yz (args0:=[(true,[dI e.1,dI e.2.1,dB e.2.2.1,dI e.2.2.2])]) (caps:=[0,1]) 2 [(0,0),(1,1)] (JG e q sig) QjS rfl (Qa rfl) rfl rfl ⟨_,_,rfl,(Qo rfl),rfl⟩ ⟨rfl,rfl,trivial⟩ rfl ⟨trivial,trivial,trivial⟩ (nlr rfl)) ?_
 refine w_ ?_
 cases r:(decide (e.1=q∧e.2.1=sig))
 have t:=aa r
 refine w6 ?_
 refine Qb ?_
 refine lK_ (d.step u ‹_›) ?_
 exact wo []
 have t:=ab r
 refine w6 ?_
 have z:((k:Int):Int)=(ZO (fun a:DAr=>decide (a.1=q∧a.2.1=sig)) l):=by
  exact (d.at u ‹_›).symm
 exact fi_ [] v ⟨rfl,rfl,trivial⟩ (h0:=by rw[z] <;> rfl)
theorem Uj (l:Qq1)(q:Int)(sig:Int):FC Tryz.prog 204 [(false,[.dat Qv l]),(false,[.clo 321 [0,1]])] [bx 0 3 [dI q],bx 1 3 [dI sig]] 2 (Is (lB (l.any (fun a:DAr=>decide (a.1=q∧a.2.1=sig)))) [bx 0 3 [dI q],bx 1 3 [dI sig]]):=by
 refine Qp Tryz.func204 rfl rfl Tryz.ntmps204 fun u r t d v o h=> ?_
 refine w6 ?_
 refine lc (dP 2 [] (KQ l q sig) QcI) ?_
 refine w4 ?_
 have e:(decide (0≤(ZO (fun a:DAr=>decide (a.1=q∧a.2.1=sig)) l)):Bool)=(l.any (fun a:DAr=>decide (a.1=q∧a.2.1=sig))):=by
  exact Uw _ _
 exact fi_ [] r ⟨rfl,rfl,trivial⟩ (h0:=by rw[e] <;> rfl)
theorem H4 (c:ZX)(q:Int)(sig:Int):FC Tryz.prog 184 [(true,[.dat Ql c.1, .dat Qj c.2.1, .dat Qv c.2.2]),(false,[dI q]),(false,[dI sig])] [] 0 (QX (lB (Zc c q sig))):=by
 refine Qp Tryz.func184 rfl rfl Tryz.ntmps184 fun t o r d u h e=> ?_
 refine acI 1 fun _=> ?_
 refine acI 2 fun _=> ?_
 refine w_ ?_
 refine xbx 0 ?_
 refine xbx 1 ?_
 refine xbx 2 ?_
 refine w5 ?_
 refine lc (YZ ⟨_,_,rfl,(Qa rfl),rfl,⟨_,_,rfl,(Qa rfl),rfl,rfl⟩⟩ rfl) ?_
 refine lc (dP 3 [(0,1),(1,2)] (Uj c.2.2 q sig) QdQ) ?_
 refine w2 ?_
 refine Qd<|fqB o ?_
 rfl
theorem Qb2 (c:ZX)(V:c.2.2.length≤4000)(N:∀a∈c.2.2, -1≤a.2.1):FC Tryz.prog 206 [(true,[.dat Ql c.1, .dat Qj c.2.1, .dat Qv c.2.2])] [] 0 (YV 123 Qi (Km c.2.2 c.2.2.length)):=by
 refine Qp Tryz.func206 rfl rfl Tryz.ntmps206 fun Y T X Q Z S R=> ?_
 refine w_ ?_
 refine xbx 0 ?_
 refine w3 ?_
 refine lc (dBs 1 (e:=Qi) YR) ?_
 refine w6 ?_
 refine alL 10 fun _=> ?_
 refine w4 ?_
 refine lp0 c.2.2.length (fun i=>⟨[(1,lP 0 0),(2,lf (.val (.slice none 0 0))),(3,lR 2),(10,lf (.dat Qv c.2.2)),(11,lI (c.2.2.length:Int)),(12,lI (i:Int))],[bx 0 28 [.dat Ql c.1, .dat Qj c.2.1, .dat Qv c.2.2],ar 2 123 Qi (Km c.2.2 i)]⟩) ?_ fun i _=> ?_
 exact wp [(2,1)] ⟨rfl,(Qk (rfl)),trivial⟩
 have K:=QmG (i:=i) V
 refine w4 ?_
 cases F:(decide ((i:Int) < (c.2.2.length:Int)))
 have G:=aa F
 refine w7 ?_
 refine Qd<|fo_ T ?_
 (congr 1; omega)
 have G:=ab F
 refine w6 ?_
 obtain ⟨h,J⟩:=gx c.2.2 i
 have r:=J
 have L:=QdM N J
 refine w2 ?_
 refine lc (xal 3 YE ZG) ?_
 refine w9 ?_
 refine QD (fun O P=>∃(m:Int) (d:List (List Int)),O=((c.2.2.length:Int) - m).toNat∧((i:Int)+1≤m∧m≤(c.2.2.length:Int))∧(d=Km c.2.2 i++rg (Qb1 c.2.2 i) m.toNat)∧P=⟨[(1,lP 0 0),(2,lf (.val (.slice none 0 0))),(3,lR 4),(4,lI (i:Int)),(5,lP 3 0),(6,lI m),(10,lf (.dat Qv c.2.2)),(11,lI (c.2.2.length:Int)),(12,lI (i:Int)),(13,lB true),(14,lI (i:Int)),(15,lf (.elt YE h 0)),(16,ag [dI h.1,dI h.2.1,dB h.2.2.1,dI h.2.2.2]),(17,lI (i:Int)),(18,lI ((i:Int)+1))],[bx 0 28 [.dat Ql c.1, .dat Qj c.2.1, .dat Qv c.2.2],bx 3 154 [dI h.1,dI h.2.1,dB h.2.2.1,dI h.2.2.2],ar 4 123 Qi d]⟩) ⟨(i:Int)+1,Km c.2.2 i,rfl,(by omega),(by rw[show ((i:Int)+1).toNat=i+1 by omega,Qfy,bE]),rfl⟩ ?_ ?_
 exact wp [(4,2)] ⟨rfl,rfl,(Qk (by first | rfl | simp)),trivial⟩
 rintro O P ⟨m,d,U,hm,o,rfl⟩
 have W:d.length≤17000000:=by rw[o,ai]; have:=V4 (f:=Qb1 c.2.2 i) (m:=m.toNat); have:=K (by omega); omega
 refine w5 ?_
 refine alL 21 fun _=> ?_
 refine w3 ?_
 cases H:(decide (m < (c.2.2.length:Int)))
 have I:=aa H
 refine w6 ?_
 refine Qb ?_
 refine l0_ ?_
 exact wp [(2,4)] ⟨rfl,(Qk ((by rw[o]; exact QoP (by omega) (by omega)))),trivial⟩
 have I:=ab H
 refine w8 ?_
 obtain ⟨am,z⟩:=gx c.2.2 ((m).toNat)
 have t:=z
 have M:=QdM N z
 refine w2 ?_
 refine lc (xal 5 YE ZG) ?_
 refine w5 ?_
 refine alI 32 fun _=> ?_
 refine w2 ?_
 cases u:(!decide (h.2.1=(-1)))
 have A:(h.2.1=(-1)):=Qu u
 refine w16 ?_
 refine w12 ?_
 refine Qb<|Zb ⟨(m+1),d,rfl,(by omega),(by exact QbG (by omega) o (VN r t (by omega))),rfl⟩ (by omega) ?_
 exact wo []
 have A:¬(h.2.1=(-1)):=QE u
 refine w7 ?_
 cases v:(decide (am.1=h.1))
 have C:=aa v
 refine w16 ?_
 refine w5 ?_
 refine Qb<|Zb ⟨(m+1),d,rfl,(by omega),(by exact QbG (by omega) o (VN r t (by omega))),rfl⟩ (by omega) ?_
 exact wo []
 have C:=ab v
 refine w7 ?_
 cases w:(decide (am.2.1=h.2.1))
 have D:=aa w
 refine w14 ?_
 refine Qb<|Zb ⟨(m+1),d,rfl,(by omega),(by exact QbG (by omega) o (VN r t (by omega))),rfl⟩ (by omega) ?_
 exact wo []
 have D:=ab w
 refine w7 ?_
 cases x:(!decide (am.2.2.2=h.2.2.2))
 have E:(am.2.2.2=h.2.2.2):=Qu x
 refine w7 ?_
 refine Qb<|Zb ⟨(m+1),d,rfl,(by omega),(by exact QbG (by omega) o (VN r t (by omega))),rfl⟩ (by omega) ?_
 exact wo []
 have E:¬(am.2.2.2=h.2.2.2):=QE x
 refine w5 ?_
 refine lc (dBs 6 (e:= .int) Yt) ?_
 refine lc (dBs 7 (e:=Qi) YR (hab:=by exact ⟨_,_,_,_,rfl,(.inl ⟨_,rfl,rfl,rfl⟩),⟨rfl,rfl⟩,rfl⟩)) ?_
 refine lc (dA 8 UZ) ?_
 refine w_ ?_
 refine Qb ?_
 refine w5 ?_
 refine Qb<|Zb ⟨(m+1),(d++([[(i:Int),m]])),rfl,(by omega),(by exact Qpz (by omega) o (QoR (by omega) r t (by omega) (by omega) (by omega) (by omega) (by omega))),rfl⟩ (by omega) ?_
 exact wp [(4,8)] ⟨rfl,rfl,(Qk (by first | rfl | simp)),trivial⟩
theorem QdV (c:ZX)(V:c.2.2.length≤4000)(N:∀a∈c.2.2, -1≤a.2.1):FC Tryz.prog 220 [(true,[.dat Ql c.1, .dat Qj c.2.1, .dat Qv c.2.2])] [] 0 (YV 123 Qi (Km c.2.2 c.2.2.length)):=by
 refine Qp Tryz.func220 rfl rfl Tryz.ntmps220 fun Y T X Q Z S R=> ?_
 refine w_ ?_
 refine xbx 0 ?_
 refine w9 ?_
 refine alL 9 fun _=> ?_
 refine w4 ?_
 refine AC.wk (Wk.nilS 1 3 123 Qi rfl (Fresh.of rfl) (nlr rfl)) ?_
 refine lp0 c.2.2.length (fun i=>⟨[(1,lP 0 0),(2,lf (.val (.slice none 0 0))),(3,lR 2),(9,lf (.dat Qv c.2.2)),(10,lI (c.2.2.length:Int)),(11,lI (i:Int))],[bx 0 28 [.dat Ql c.1, .dat Qj c.2.1, .dat Qv c.2.2],ar 2 123 Qi (Km c.2.2 i)]⟩) ?_ fun i _=> ?_
 exact wp [(2,1)] ⟨rfl,(Qk (rfl)),trivial⟩
 have K:=QmG (i:=i) V
 refine w4 ?_
 cases F:(decide ((i:Int) < (c.2.2.length:Int)))
 have G:=aa F
 refine w7 ?_
 refine Qd<|fo_ T ?_
 (congr 1; omega)
 have G:=ab F
 refine w6 ?_
 obtain ⟨h,J⟩:=gx c.2.2 i
 have r:=J
 have L:=QdM N J
 refine w2 ?_
 refine lc (xal 3 YE ZG) ?_
 refine w9 ?_
 refine QD (fun O P=>∃(m:Int) (d:List (List Int)),O=((c.2.2.length:Int) - m).toNat∧((i:Int)+1≤m∧m≤(c.2.2.length:Int))∧(d=Km c.2.2 i++rg (Qb1 c.2.2 i) m.toNat)∧P=⟨[(1,lP 0 0),(2,lf (.val (.slice none 0 0))),(3,lR 4),(4,lI (i:Int)),(5,lP 3 0),(6,lI m),(9,lf (.dat Qv c.2.2)),(10,lI (c.2.2.length:Int)),(11,lI (i:Int)),(12,lB true),(13,lI (i:Int)),(14,lf (.elt YE h 0)),(15,ag [dI h.1,dI h.2.1,dB h.2.2.1,dI h.2.2.2]),(16,lI (i:Int)),(17,lI ((i:Int)+1))],[bx 0 28 [.dat Ql c.1, .dat Qj c.2.1, .dat Qv c.2.2],bx 3 154 [dI h.1,dI h.2.1,dB h.2.2.1,dI h.2.2.2],ar 4 123 Qi d]⟩) ⟨(i:Int)+1,Km c.2.2 i,rfl,(by omega),(by rw[show ((i:Int)+1).toNat=i+1 by omega,Qfy,bE]),rfl⟩ ?_ ?_
 exact wp [(4,2)] ⟨rfl,rfl,(Qk (by first | rfl | simp)),trivial⟩
 rintro O P ⟨m,d,U,hm,o,rfl⟩
 have W:d.length≤17000000:=by rw[o,ai]; have:=V4 (f:=Qb1 c.2.2 i) (m:=m.toNat); have:=K (by omega); omega
 refine w5 ?_
 refine alL 20 fun _=> ?_
 refine w3 ?_
 cases H:(decide (m < (c.2.2.length:Int)))
 have I:=aa H
 refine w6 ?_
 refine Qb ?_
 refine l0_ ?_
 exact wp [(2,4)] ⟨rfl,(Qk ((by rw[o]; exact QoP (by omega) (by omega)))),trivial⟩
 have I:=ab H
 refine w8 ?_
 obtain ⟨am,z⟩:=gx c.2.2 ((m).toNat)
 have t:=z
 have M:=QdM N z
 refine w2 ?_
 refine lc (xal 5 YE ZG) ?_
 refine w5 ?_
 refine alI 31 fun _=> ?_
 refine w2 ?_
 refine alI 33 fun _=> ?_
 refine w2 ?_
 cases u:(decide (h.1=am.1))
 have A:=aa u
 refine w16 ?_
 refine w10 ?_
 refine Qb<|Zb ⟨(m+1),d,rfl,(by omega),(by exact QbG (by omega) o (VN r t (by omega))),rfl⟩ (by omega) ?_
 exact wo []
 have A:=ab u
 refine w7 ?_
 cases v:(decide (h.2.1=am.2.1))
 have C:=aa v
 refine w16 ?_
 refine w3 ?_
 refine Qb<|Zb ⟨(m+1),d,rfl,(by omega),(by exact QbG (by omega) o (VN r t (by omega))),rfl⟩ (by omega) ?_
 exact wo []
 have C:=ab v
 refine w5 ?_
 cases w:(decide (0≤h.2.1))
 have D:=aa w
 refine w14 ?_
 refine Qb<|Zb ⟨(m+1),d,rfl,(by omega),(by exact QbG (by omega) o (VN r t (by omega))),rfl⟩ (by omega) ?_
 exact wo []
 have D:=ab w
 refine w7 ?_
 cases x:(!decide (h.2.2.2=am.2.2.2))
 have E:(h.2.2.2=am.2.2.2):=Qu x
 refine w7 ?_
 refine Qb<|Zb ⟨(m+1),d,rfl,(by omega),(by exact QbG (by omega) o (VN r t (by omega))),rfl⟩ (by omega) ?_
 exact wo []
 have E:¬(h.2.2.2=am.2.2.2):=QE x
 refine w5 ?_
 refine lc (dBs 6 (e:= .int) Yt) ?_
 refine lc (dBs 7 (e:=Qi) YR (hab:=by exact ⟨_,_,_,_,rfl,(.inl ⟨_,rfl,rfl,rfl⟩),⟨rfl,rfl⟩,rfl⟩)) ?_
 refine lc (dA 8 UZ) ?_
 refine w_ ?_
 refine Qb ?_
 refine w5 ?_
 refine Qb<|Zb ⟨(m+1),(d++([[(i:Int),m]])),rfl,(by omega),(by exact Qpz (by omega) o (QoR (by omega) r t (by omega) (by omega) (by omega) (by omega) (by omega))),rfl⟩ (by omega) ?_
 exact wp [(4,8)] ⟨rfl,rfl,(Qk (by first | rfl | simp)),trivial⟩
theorem Hq (c:ZX)(N:SgW c):FC Tryz.prog 292 [(true,[.dat Ql c.1, .dat Qj c.2.1, .dat Qv c.2.2])] [] 0 (YV 382 Z6 (X8 c (rwI c) c.2.1.length)):=by
 have t:∀a∈c.2.2,InR c.2.1.length a:=fun a Y=>(N.arcs a Y).1
 have b9:=N.some_
 have b6:=N.few
 have h8:=N.sig8
 have U:=Qcy (n:=c.2.1.length) (as_:=c.2.2)
 have b8:=Qar (n:=c.2.1.length) (as_:=c.2.2)
 have c0:=Xp (n:=c.2.1.length) (es:=ixE c.2.2)
 have a2:∀k s,k < c.2.1.length→(rwI c k s).length≤c.2.2.length:=fun k s hk=>Qsw hk
 refine Qp Tryz.func292 rfl rfl Tryz.ntmps292 fun O_ hO c1 a8 X_ b0 a9=> ?_
 refine w_ ?_
 refine xbx 0 ?_
 refine w2 ?_
 apply dW (⟨some 11,lR 1,[(1,some (.arr 382 Z6 ([])))]⟩ :: io 12 (ag [.dat Ql c.1, .dat Qj c.2.1, .dat Qv c.2.2]) :: io 13 (lf (.dat Qi (Xs c.2.1.length c.2.2))) :: io 14 (ag [.dat Ql c.1, .dat Qj c.2.1, .dat Qv c.2.2]) :: io 15 (lf (.dat Z7 (Zp c.2.1.length (ixE c.2.2)))) :: i3 3 _ _ _ []) [0,1,1,7,1,0,0,0]
 refine zz (fun _ h_=>ac (dBs 1 (e:=Z6) Jo) rfl) ?_
 refine z_ ?_
 refine zz (fun _ h_=>ac (dK (Vv c N).frozen QcF) rfl) ?_
 refine z_ ?_
 refine zz (fun _ h_=>ac (dK (QaL c t (by omega)).frozen QiS) rfl) ?_
 exact y3
 refine w4 ?_
 refine alL 17 fun _=> ?_
 refine w4 ?_
 refine lp0 c.2.1.length (fun k=>⟨[(1,lP 0 0),(2,lf (.val (.slice none 0 0))),(3,lR 2),(4,lf (.dat Qi (Xs c.2.1.length c.2.2))),(5,lf (.dat Z7 (Zp c.2.1.length (ixE c.2.2)))),(18,lI (c.2.1.length:Int)),(19,lI (k:Int))],[bx 0 28 [.dat Ql c.1, .dat Qj c.2.1, .dat Qv c.2.2],(2,some (.arr 382 Z6 (X8 c (rwI c) k)))]⟩) ?_ fun k _=> ?_
 exact wp [(2,1)] ⟨rfl,(Qk (rfl)),trivial⟩
 have Z:=fun j hj=>Ql3 (n:=k) (k:=k) (j:=j) N (by omega) hj a2
 refine w4 ?_
 cases P:(decide ((k:Int) < (c.2.1.length:Int)))
 have Q:=aa P
 refine w7 ?_
 refine Qd<|fo_ hO ?_
 (congr 1; omega)
 have Q:=ab P
 refine w11 ?_
 refine alL 23 fun _=> ?_
 refine w4 ?_
 refine lp0 c.1.length (fun j=>⟨[(1,lP 0 0),(2,lf (.val (.slice none 0 0))),(3,lR 3),(4,lf (.dat Qi (Xs c.2.1.length c.2.2))),(5,lf (.dat Z7 (Zp c.2.1.length (ixE c.2.2)))),(6,lI (k:Int)),(18,lI (c.2.1.length:Int)),(19,lI (k:Int)),(20,lB true),(21,lI (k:Int)),(22,lP 0 0),(23,lf (.dat Ql c.1)),(24,lI (c.1.length:Int)),(25,lI (j:Int))],[bx 0 28 [.dat Ql c.1, .dat Qj c.2.1, .dat Qv c.2.2],(3,some (.arr 382 Z6 (X8 c (rwI c) k++Wx c (rwI c) k j)))]⟩) ?_ fun j _=> ?_
 exact wp [(3,2)] ⟨rfl,(Qk (by simp[Wx,rf])),trivial⟩
 have a0:=Z j (by omega)
 refine w4 ?_
 cases R:(decide ((j:Int) < (c.1.length:Int)))
 have S:=aa R
 refine w6 ?_
 refine Qb ?_
 refine l0_ ?_
 exact wp [(2,3)] ⟨rfl,(Qk (QeT (by omega) (by omega))),trivial⟩
 have S:=ab R
 refine w12 ?_
 obtain ⟨x,W⟩:=gx (Xs c.2.1.length c.2.2) k
 have X:=W
 have u:=U _ (ae W)
 refine w2 ?_
 refine alI 31 fun _=> ?_
 refine w_ ?_
 refine lc (WK (Qn rfl) (Qa rfl) rfl (by omega))<|lc (QaI (Qa rfl) (Qa rfl) rfl (by omega) (by first | exact u | exact v | exact cc u (ci (by decide)) | exact cc v (ci (by decide)) | omega | exact cE _))<|lc (Qaf (Qa rfl) (Qn rfl) rfl (by first | exact u | exact v | exact cc u (ci (by decide)) | exact cc v (ci (by decide)) | omega | exact cE _) (by omega)) ?_
 refine w2 ?_
 cases D:(decide ((((x / 2 ^ (2*(j:Int)).toNat).toNat &&& (3:Int).toNat:Nat):Int)=0))
 have J:=aa D
 refine w5 ?_
 obtain ⟨C,z⟩:=gx (Zp c.2.1.length (ixE c.2.2)) k
 have V:=z
 have a3:=Ux z
 rw[Qac] at a3
 have a4:∀x,x∈C↔_:=fun x=>Qe4 (x:=x) (fun a Y=>(t a Y).1.1) z
 refine w2 ?_
 refine alL 40 fun _=> ?_
 refine w4 ?_
 refine lp0 C.length (fun i=>⟨[(1,lP 0 0),(2,lf (.val (.slice none 0 0))),(3,lR 4),(4,lf (.dat Qi (Xs c.2.1.length c.2.2))),(5,lf (.dat Z7 (Zp c.2.1.length (ixE c.2.2)))),(6,lI (k:Int)),(7,lI (j:Int)),(18,lI (c.2.1.length:Int)),(19,lI (k:Int)),(20,lB true),(21,lI (k:Int)),(22,lP 0 0),(23,lf (.dat Ql c.1)),(24,lI (c.1.length:Int)),(25,lI (j:Int)),(26,lB true),(27,lI (j:Int)),(28,lf (.dat Qi (Xs c.2.1.length c.2.2))),(29,lI (k:Int)),(30,lf (.elt .int x 0)),(31,lI x),(32,lI (j:Int)),(33,lI (2*(j:Int))),(34,lI (x / 2 ^ (2*(j:Int)).toNat)),(35,lI (((x / 2 ^ (2*(j:Int)).toNat).toNat &&& (3:Int).toNat:Nat):Int)),(36,lB false),(37,lf (.dat Z7 (Zp c.2.1.length (ixE c.2.2)))),(38,lI (k:Int)),(39,lf (.elt Qi C 0)),(40,lf (.dat Qi C)),(41,lI (C.length:Int)),(42,lI (i:Int))],[bx 0 28 [.dat Ql c.1, .dat Qj c.2.1, .dat Qv c.2.2],(4,some (.arr 382 Z6 (X8 c (rwI c) k++Wx c (rwI c) k j++rg (Qhh c C k j) i)))]⟩) ?_ fun i _=> ?_
 exact wp [(4,3)] ⟨rfl,(Qk (by simp[rg])),trivial⟩
 have b4:=V4 (f:=Qhh c C k j) (m:=i)
 have b5:=a0.2 (by omega)
 refine w4 ?_
 cases E:(decide ((i:Int) < (C.length:Int)))
 have K:=aa E
 refine w6 ?_
 refine Qb ?_
 refine l0_ ?_
 exact wp [(3,4)] ⟨rfl,(Qk (by first | exact Qb9 (U8 t ⟨by omega,by omega⟩ (by omega) X ‹_›) | exact QfP (Qep t ⟨by omega,by omega⟩ (by omega) X ‹_›) V (by omega) (by omega))),trivial⟩
 have K:=ab E
 refine w5 ?_
 obtain ⟨q,H⟩:=gx C i
 obtain ⟨jq,aq,a1,b3,hq⟩:=(a4 _).1 (ae H)
 have b7:=(ah.1 a1).1
 have h:=H
 refine w2 ?_
 refine alI 45 fun _=> ?_
 refine w6 ?_
 obtain ⟨ar,A⟩:=gx c.2.2 ((q).toNat)
 have O:=t _ (ae A)
 obtain ⟨⟨b1,b2⟩,o,r⟩:=O
 have T:=(N.arcs _ (ae A)).2
 have a7:ar.2.1 < (c.1.length:Int):=Qgg T
 have d:=A
 refine w2 ?_
 refine lc (xal 5 YE ZG) ?_
 refine w5 ?_
 refine alI 52 fun _=> ?_
 refine w3 ?_
 cases F:(!decide (ar.2.1=(j:Int)))
 have L:(ar.2.1=(j:Int)):=Qu F
 refine w16 ?_
 refine Qe rfl rfl rfl ?_ rfl
 refine Qe rfl rfl rfl ?_ rfl
 refine Qe rfl rfl rfl ?_ rfl
 refine Qe rfl rfl rfl ?_ rfl
 refine w10 ?_
 refine Qb ?_
 refine l0_ ?_
 exact wp [] ⟨rfl,(Qk (by first | exact Yh (Xi h d (Vx ‹_› (U8 t ⟨o,r⟩ (by omega) w ‹_›) ‹_›)) | exact Yh (Xi h d (Vp ‹_› (U8 t ⟨o,r⟩ (by omega) w ‹_›) ‹_›)) | exact congrArg _ (Zq (YF h d (Vi ‹_›))) | exact congrArg _ (Zq (YF h d (Vg ‹_› ‹_›))) | exact congrArg _ (Zq (YF h d (VA (Qep t ⟨o,r⟩ (by omega) w ‹_›)))))),trivial⟩
 have L:¬(ar.2.1=(j:Int)):=QE F
 refine w3 ?_
 obtain ⟨y,I⟩:=gx (Xs c.2.1.length c.2.2) ((ar.2.2.2).toNat)
 have w:=I
 have v:=U _ (ae I)
 refine w3 ?_
 refine lgy rfl rfl (WK (Qn rfl) (Qa rfl) rfl (by omega))<|lgy rfl rfl (QaI (Qa rfl) (Qa rfl) rfl (by omega) (by first | exact u | exact v | exact cc u (ci (by decide)) | exact cc v (ci (by decide)) | omega | exact cE _))<|lgy rfl rfl (Qaf (Qa rfl) (Qn rfl) rfl (by first | exact u | exact v | exact cc u (ci (by decide)) | exact cc v (ci (by decide)) | omega | exact cE _) (by omega)) ?_
 refine w3 ?_
 cases G:(decide ((((y / 2 ^ (2*(j:Int)).toNat).toNat &&& (3:Int).toNat:Nat):Int)=0))
 have M:=aa G
 refine w4 ?_
 refine Qe rfl rfl rfl ?_ rfl
 refine Qe rfl rfl rfl ?_ rfl
 refine Qe rfl rfl rfl ?_ rfl
 refine Qe rfl rfl rfl ?_ rfl
 refine w10 ?_
 refine Qb ?_
 refine l0_ ?_
 exact wp [] ⟨rfl,(Qk (by first | exact Yh (Xi h d (Vx ‹_› (U8 t ⟨o,r⟩ (by omega) w ‹_›) ‹_›)) | exact Yh (Xi h d (Vp ‹_› (U8 t ⟨o,r⟩ (by omega) w ‹_›) ‹_›)) | exact congrArg _ (Zq (YF h d (Vi ‹_›))) | exact congrArg _ (Zq (YF h d (Vg ‹_› ‹_›))) | exact congrArg _ (Zq (YF h d (VA (Qep t ⟨o,r⟩ (by omega) w ‹_›)))))),trivial⟩
 have M:=ab G
 refine w2 ?_
 refine lgy rfl rfl (dK (U4 c (j:Int) (by omega)) Qdg) ?_
 refine w_ ?_
 cases a5:(QR c (j:Int))
 refine w14 ?_
 refine lc (Qq Qci ⟨_,_,rfl,(Qo rfl),⟨_,_,rfl,(Qo rfl),⟨_,_,rfl,(Qo rfl),rfl⟩⟩⟩ (av.1 rfl) rfl rfl) ?_
 refine lc (dBs 6 (e:=Z6) Jo (hab:=by exact ⟨_,_,_,_,rfl,⟨[dI (k:Int)],[dI (j:Int),dI q],_,_,_,_,rfl,rfl,⟨rfl,rfl⟩,⟨[dI (j:Int)],[dI q],_,_,_,_,rfl,rfl,⟨rfl,rfl⟩,⟨rfl,rfl⟩,rfl⟩,rfl⟩,⟨rfl,rfl⟩,rfl⟩)) ?_
 refine lc (dA 7 Qcm) ?_
 refine w_ ?_
 refine Qb ?_
 refine w4 ?_
 refine Qb ?_
 refine l0_ ?_
 exact wp [(4,7)] ⟨rfl,(Qk (by first | exact Yh (Xi h d (Vx ‹_› (U8 t ⟨o,r⟩ (by omega) w ‹_›) ‹_›)) | exact Yh (Xi h d (Vp ‹_› (U8 t ⟨o,r⟩ (by omega) w ‹_›) ‹_›)) | exact congrArg _ (Zq (YF h d (Vi ‹_›))) | exact congrArg _ (Zq (YF h d (Vg ‹_› ‹_›))) | exact congrArg _ (Zq (YF h d (VA (Qep t ⟨o,r⟩ (by omega) w ‹_›)))))),trivial⟩
 refine w3 ?_
 refine lgy rfl rfl (dK (U4 c ar.2.1 (by omega)) Qdg) ?_
 refine w4 ?_
 cases a6:(QR c ar.2.1)
 refine w6 ?_
 refine lc (Qq Qci ⟨_,_,rfl,(Qo rfl),⟨_,_,rfl,(Qo rfl),⟨_,_,rfl,(Qo rfl),rfl⟩⟩⟩ (av.1 rfl) rfl rfl) ?_
 refine lc (dBs 8 (e:=Z6) Jo (hab:=by exact ⟨_,_,_,_,rfl,⟨[dI (k:Int)],[dI (j:Int),dI q],_,_,_,_,rfl,rfl,⟨rfl,rfl⟩,⟨[dI (j:Int)],[dI q],_,_,_,_,rfl,rfl,⟨rfl,rfl⟩,⟨rfl,rfl⟩,rfl⟩,rfl⟩,⟨rfl,rfl⟩,rfl⟩)) ?_
 refine lc (dA 9 Qcm) ?_
 refine w_ ?_
 refine Qb ?_
 refine w4 ?_
 refine Qb ?_
 refine l0_ ?_
 exact wp [(4,9)] ⟨rfl,(Qk (by first | exact Yh (Xi h d (Vx ‹_› (U8 t ⟨o,r⟩ (by omega) w ‹_›) ‹_›)) | exact Yh (Xi h d (Vp ‹_› (U8 t ⟨o,r⟩ (by omega) w ‹_›) ‹_›)) | exact congrArg _ (Zq (YF h d (Vi ‹_›))) | exact congrArg _ (Zq (YF h d (Vg ‹_› ‹_›))) | exact congrArg _ (Zq (YF h d (VA (Qep t ⟨o,r⟩ (by omega) w ‹_›)))))),trivial⟩
 refine w6 ?_
 refine Qb ?_
 refine l0_ ?_
 exact wp [] ⟨rfl,(Qk (by first | exact Yh (Xi h d (Vx ‹_› (U8 t ⟨o,r⟩ (by omega) w ‹_›) ‹_›)) | exact Yh (Xi h d (Vp ‹_› (U8 t ⟨o,r⟩ (by omega) w ‹_›) ‹_›)) | exact congrArg _ (Zq (YF h d (Vi ‹_›))) | exact congrArg _ (Zq (YF h d (Vg ‹_› ‹_›))) | exact congrArg _ (Zq (YF h d (VA (Qep t ⟨o,r⟩ (by omega) w ‹_›)))))),trivial⟩
 have J:=ab D
 refine w6 ?_
 refine Qb ?_
 refine l0_ ?_
 exact wp [] ⟨rfl,(Qk (by first | exact Qb9 (U8 t ⟨by omega,by omega⟩ (by omega) X ‹_›) | exact QfP (Qep t ⟨by omega,by omega⟩ (by omega) X ‹_›) V (by omega) (by omega))),trivial⟩
theorem V2 (c:ZX)(sig:Int)(z:sig < (c.1.length:Int)):FC Tryz.prog 223 [(true,[.dat Ql c.1, .dat Qj c.2.1, .dat Qv c.2.2]),(false,[dI sig])] [] 0 (QX (lB (!QR c sig))):=by
 refine Qp Tryz.func223 rfl rfl Tryz.ntmps223 fun w o v r x u t=> ?_
 refine acI 1 fun _=> ?_
 refine w_ ?_
 refine xbx 0 ?_
 refine w6 ?_
 cases d:(decide (sig < 0))
 have e:=aa d
 refine w3 ?_
 obtain ⟨A,h⟩:=gx c.1 ((sig).toNat)
 refine w7 ?_
 refine Qd<|fqB o ?_
 ·(rw[← J7 (by omega) h]; done)
 have e:=ab d
 refine w10 ?_
 refine Qd<|fqB o ?_
 (rw[← Qmp (by omega)]; rfl)
theorem XE (c:ZX)(C:c.1.length≤100000):FC Tryz.prog 83 [(true,[.dat Ql c.1, .dat Qj c.2.1, .dat Qv c.2.2])] [] 0 (YV 3 .int (Qy c.1 c.1.length)):=by
 refine Qp Tryz.func83 rfl rfl Tryz.ntmps83 fun z u x o A t r=> ?_
 refine w_ ?_
 refine xbx 0 ?_
 refine w9 ?_
 refine alL 6 fun _=> ?_
 refine w4 ?_
 refine AC.wk (Wk.nilS 1 3 3 .int rfl (Fresh.of rfl) (nlr rfl)) ?_
 refine lp0 c.1.length (fun k=>⟨[(1,lP 0 0),(2,lf (.val (.slice none 0 0))),(3,lR 2),(7,lI (c.1.length:Int)),(8,lI (k:Int))],[bx 0 28 [.dat Ql c.1, .dat Qj c.2.1, .dat Qv c.2.2],ar 2 3 .int (Qy c.1 k)]⟩) ?_ fun k _=> ?_
 exact wp [(2,1)] ⟨rfl,(Qk (rfl)),trivial⟩
 have w:=Wo (ss:=c.1) (k:=k)
 refine w4 ?_
 cases d:(decide ((k:Int) < (c.1.length:Int)))
 have h:=aa d
 refine w7 ?_
 refine Qd<|fo_ u ?_
 (congr 1; omega)
 have h:=ab d
 refine w11 ?_
 refine lc (dK (V2 c (k:Int) (by omega)) Ha) ?_
 refine w_ ?_
 cases v:(QR c (k:Int))
 refine w4 ?_
 refine lc (dBs 3 (e:= .int) Yt) ?_
 refine lc (dA 4 XC) ?_
 refine w_ ?_
 refine Qb ?_
 refine w4 ?_
 refine Qb ?_
 refine l0_ ?_
 exact wp [(2,4)] ⟨rfl,(Qk (by first | exact QfB (by omega) ‹_› | exact Qh5 (by omega) ‹_›)),trivial⟩
 refine w6 ?_
 refine Qb ?_
 refine l0_ ?_
 exact wp [] ⟨rfl,(Qk (by first | exact QfB (by omega) ‹_› | exact Qh5 (by omega) ‹_›)),trivial⟩
theorem Qbj (c:ZX)(x:SgW c):FC Tryz.prog 221 [(true,[.dat Ql c.1, .dat Qj c.2.1, .dat Qv c.2.2])] [] 0 (YV 382 Z6 (X8 c (rwS c) c.2.1.length)):=by
 have hr:∀a∈c.2.2,InR c.2.1.length a:=fun a R=>(x.arcs a R).1
 have a0:=x.some_
 have Z:=x.few
 have h8:=x.sig8
 have I:∀k s,k < c.2.1.length→(rwS c k s).length≤c.2.2.length:=fun k s hk=>Qs8
 refine Qp Tryz.func221 rfl rfl Tryz.ntmps221 fun O_ Q a1 N X_ P O=> ?_
 refine w_ ?_
 refine xbx 0 ?_
 refine w9 ?_
 refine alL 9 fun _=> ?_
 refine w4 ?_
 refine AC.wk (Wk.nilS 1 3 382 Z6 rfl (Fresh.of rfl) (nlr rfl)) ?_
 refine lp0 c.2.1.length (fun k=>⟨[(1,lP 0 0),(2,lf (.val (.slice none 0 0))),(3,lR 2),(10,lI (c.2.1.length:Int)),(11,lI (k:Int))],[bx 0 28 [.dat Ql c.1, .dat Qj c.2.1, .dat Qv c.2.2],(2,some (.arr 382 Z6 (X8 c (rwS c) k)))]⟩) ?_ fun k _=> ?_
 exact wp [(2,1)] ⟨rfl,(Qk (rfl)),trivial⟩
 have G:=fun j hj=>Ql3 (n:=k) (k:=k) (j:=j) x (by omega) hj I
 refine w4 ?_
 cases A:(decide ((k:Int) < (c.2.1.length:Int)))
 have C:=aa A
 refine w7 ?_
 refine Qd<|fo_ Q ?_
 (congr 1; omega)
 have C:=ab A
 refine w11 ?_
 refine alL 15 fun _=> ?_
 refine w4 ?_
 refine lp0 c.1.length (fun j=>⟨[(1,lP 0 0),(2,lf (.val (.slice none 0 0))),(3,lR 3),(4,lI (k:Int)),(10,lI (c.2.1.length:Int)),(11,lI (k:Int)),(12,lB true),(13,lI (k:Int)),(14,lP 0 0),(15,lf (.dat Ql c.1)),(16,lI (c.1.length:Int)),(17,lI (j:Int))],[bx 0 28 [.dat Ql c.1, .dat Qj c.2.1, .dat Qv c.2.2],(3,some (.arr 382 Z6 (X8 c (rwS c) k++Wx c (rwS c) k j)))]⟩) ?_ fun j _=> ?_
 exact wp [(3,2)] ⟨rfl,(Qk (by simp[Wx,rf])),trivial⟩
 have H:=G j (by omega)
 refine w4 ?_
 cases D:(decide ((j:Int) < (c.1.length:Int)))
 have E:=aa D
 refine w6 ?_
 refine Qb ?_
 refine l0_ ?_
 exact wp [(2,3)] ⟨rfl,(Qk (QeT (by omega) (by omega))),trivial⟩
 have E:=ab D
 refine w13 ?_
 refine lc (dK (ZB c (k:Int) (j:Int)) Xk) ?_
 refine w2 ?_
 cases W:(Zc c (k:Int) (j:Int))
 refine w6 ?_
 refine Qb ?_
 refine l0_ ?_
 exact wp [] ⟨rfl,(Qk (by first | exact Qb9 ‹_› | exact QeN ‹_› (by omega) (by omega))),trivial⟩
 refine w5 ?_
 refine alL 26 fun _=> ?_
 refine w4 ?_
 refine lp0 c.2.2.length (fun i=>⟨[(1,lP 0 0),(2,lf (.val (.slice none 0 0))),(3,lR 4),(4,lI (k:Int)),(5,lI (j:Int)),(10,lI (c.2.1.length:Int)),(11,lI (k:Int)),(12,lB true),(13,lI (k:Int)),(14,lP 0 0),(15,lf (.dat Ql c.1)),(16,lI (c.1.length:Int)),(17,lI (j:Int)),(18,lB true),(19,lI (j:Int)),(20,ag [.dat Ql c.1, .dat Qj c.2.1, .dat Qv c.2.2]),(21,lI (k:Int)),(22,lI (j:Int)),(23,lB true),(24,lB (!true)),(25,lP 0 2),(26,lf (.dat Qv c.2.2)),(27,lI (c.2.2.length:Int)),(28,lI (i:Int))],[bx 0 28 [.dat Ql c.1, .dat Qj c.2.1, .dat Qv c.2.2],(4,some (.arr 382 Z6 (X8 c (rwS c) k++Wx c (rwS c) k j++rg (Qix c k j) i)))]⟩) ?_ fun i _=> ?_
 exact wp [(4,3)] ⟨rfl,(Qk (by simp[rg])),trivial⟩
 have X:=V4 (f:=Qix c k j) (m:=i)
 have Y:=H.2 (by omega)
 refine w4 ?_
 cases o:(decide ((i:Int) < (c.2.2.length:Int)))
 have u:=aa o
 refine w6 ?_
 refine Qb ?_
 refine l0_ ?_
 exact wp [(3,4)] ⟨rfl,(Qk (by first | exact Qb9 ‹_› | exact QeN ‹_› (by omega) (by omega))),trivial⟩
 have u:=ab o
 refine w6 ?_
 obtain ⟨ar,h⟩:=gx c.2.2 i
 have z:=hr _ (ae h)
 obtain ⟨⟨S,T⟩,U,V⟩:=z
 have F:=(x.arcs _ (ae h)).2
 have M:ar.2.1 < (c.1.length:Int):=Qgg F
 have d:=h
 refine w2 ?_
 refine lc (xal 5 YE ZG) ?_
 refine w6 ?_
 refine alI 34 fun _=> ?_
 refine w3 ?_
 cases r:(decide (ar.1=(k:Int)))
 have v:=aa r
 refine w16 ?_
 refine w2 ?_
 refine Qe rfl rfl rfl ?_ rfl
 refine Qe rfl rfl rfl ?_ rfl
 refine Qe rfl rfl rfl ?_ rfl
 refine Qe rfl rfl rfl ?_ rfl
 refine w9 ?_
 refine Qb ?_
 refine l0_ ?_
 exact wp [] ⟨rfl,(Qk (by first | exact Yh (YK d ‹_› (Vx ‹_› ‹_› ‹_›)) | exact Yh (YK d ‹_› (Vp ‹_› ‹_› ‹_›)) | exact congrArg _ (Zq (ZD d fun g=>absurd g.1 ‹_›)) | exact congrArg _ (Zq (ZD d fun g=>absurd ((Vi ‹_›).symm.trans g.2) (by decide))) | exact congrArg _ (Zq (ZD d fun g=>absurd ((VA ‹_›).symm.trans g.2) (by decide))) | exact congrArg _ (Zq (ZD d fun g=>absurd ((Vg ‹_› ‹_›).symm.trans g.2) (by decide))))),trivial⟩
 have v:=ab r
 refine w6 ?_
 cases t:(!decide (ar.2.1=(j:Int)))
 have w:(ar.2.1=(j:Int)):=Qu t
 refine w12 ?_
 refine Qe rfl rfl rfl ?_ rfl
 refine Qe rfl rfl rfl ?_ rfl
 refine Qe rfl rfl rfl ?_ rfl
 refine Qe rfl rfl rfl ?_ rfl
 refine w9 ?_
 refine Qb ?_
 refine l0_ ?_
 exact wp [] ⟨rfl,(Qk (by first | exact Yh (YK d ‹_› (Vx ‹_› ‹_› ‹_›)) | exact Yh (YK d ‹_› (Vp ‹_› ‹_› ‹_›)) | exact congrArg _ (Zq (ZD d fun g=>absurd g.1 ‹_›)) | exact congrArg _ (Zq (ZD d fun g=>absurd ((Vi ‹_›).symm.trans g.2) (by decide))) | exact congrArg _ (Zq (ZD d fun g=>absurd ((VA ‹_›).symm.trans g.2) (by decide))) | exact congrArg _ (Zq (ZD d fun g=>absurd ((Vg ‹_› ‹_›).symm.trans g.2) (by decide))))),trivial⟩
 have w:¬(ar.2.1=(j:Int)):=QE t
 refine w4 ?_
 refine lgy rfl rfl (dK (ZB c ar.2.2.2 (j:Int)) Xk) ?_
 refine w3 ?_
 cases J:(Zc c ar.2.2.2 (j:Int))
 refine w2 ?_
 refine lgy rfl rfl (dK (V2 c (j:Int) (by omega)) Ha) ?_
 refine w_ ?_
 cases K:(QR c (j:Int))
 refine w13 ?_
 refine lc (Qq Qci ⟨_,_,rfl,(Qo rfl),⟨_,_,rfl,(Qo rfl),⟨_,_,rfl,(Qo rfl),rfl⟩⟩⟩ (av.1 rfl) rfl rfl) ?_
 refine lc (dBs 6 (e:=Z6) Jo (hab:=by exact ⟨_,_,_,_,rfl,⟨[dI (k:Int)],[dI (j:Int),dI (i:Int)],_,_,_,_,rfl,rfl,⟨rfl,rfl⟩,⟨[dI (j:Int)],[dI (i:Int)],_,_,_,_,rfl,rfl,⟨rfl,rfl⟩,⟨rfl,rfl⟩,rfl⟩,rfl⟩,⟨rfl,rfl⟩,rfl⟩)) ?_
 refine lc (dA 7 Qcm) ?_
 refine w_ ?_
 refine Qb ?_
 refine w4 ?_
 refine Qb ?_
 refine l0_ ?_
 exact wp [(4,7)] ⟨rfl,(Qk (by first | exact Yh (YK d ‹_› (Vx ‹_› ‹_› ‹_›)) | exact Yh (YK d ‹_› (Vp ‹_› ‹_› ‹_›)) | exact congrArg _ (Zq (ZD d fun g=>absurd g.1 ‹_›)) | exact congrArg _ (Zq (ZD d fun g=>absurd ((Vi ‹_›).symm.trans g.2) (by decide))) | exact congrArg _ (Zq (ZD d fun g=>absurd ((VA ‹_›).symm.trans g.2) (by decide))) | exact congrArg _ (Zq (ZD d fun g=>absurd ((Vg ‹_› ‹_›).symm.trans g.2) (by decide))))),trivial⟩
 refine w3 ?_
 refine lgy rfl rfl (dK (V2 c ar.2.1 (by omega)) Ha) ?_
 refine w3 ?_
 cases L:(QR c ar.2.1)
 refine w6 ?_
 refine lc (Qq Qci ⟨_,_,rfl,(Qo rfl),⟨_,_,rfl,(Qo rfl),⟨_,_,rfl,(Qo rfl),rfl⟩⟩⟩ (av.1 rfl) rfl rfl) ?_
 refine lc (dBs 8 (e:=Z6) Jo (hab:=by exact ⟨_,_,_,_,rfl,⟨[dI (k:Int)],[dI (j:Int),dI (i:Int)],_,_,_,_,rfl,rfl,⟨rfl,rfl⟩,⟨[dI (j:Int)],[dI (i:Int)],_,_,_,_,rfl,rfl,⟨rfl,rfl⟩,⟨rfl,rfl⟩,rfl⟩,rfl⟩,⟨rfl,rfl⟩,rfl⟩)) ?_
 refine lc (dA 9 Qcm) ?_
 refine w_ ?_
 refine Qb ?_
 refine w4 ?_
 refine Qb ?_
 refine l0_ ?_
 exact wp [(4,9)] ⟨rfl,(Qk (by first | exact Yh (YK d ‹_› (Vx ‹_› ‹_› ‹_›)) | exact Yh (YK d ‹_› (Vp ‹_› ‹_› ‹_›)) | exact congrArg _ (Zq (ZD d fun g=>absurd g.1 ‹_›)) | exact congrArg _ (Zq (ZD d fun g=>absurd ((Vi ‹_›).symm.trans g.2) (by decide))) | exact congrArg _ (Zq (ZD d fun g=>absurd ((VA ‹_›).symm.trans g.2) (by decide))) | exact congrArg _ (Zq (ZD d fun g=>absurd ((Vg ‹_› ‹_›).symm.trans g.2) (by decide))))),trivial⟩
 refine w6 ?_
 refine Qb ?_
 refine l0_ ?_
 exact wp [] ⟨rfl,(Qk (by first | exact Yh (YK d ‹_› (Vx ‹_› ‹_› ‹_›)) | exact Yh (YK d ‹_› (Vp ‹_› ‹_› ‹_›)) | exact congrArg _ (Zq (ZD d fun g=>absurd g.1 ‹_›)) | exact congrArg _ (Zq (ZD d fun g=>absurd ((Vi ‹_›).symm.trans g.2) (by decide))) | exact congrArg _ (Zq (ZD d fun g=>absurd ((VA ‹_›).symm.trans g.2) (by decide))) | exact congrArg _ (Zq (ZD d fun g=>absurd ((Vg ‹_› ‹_›).symm.trans g.2) (by decide))))),trivial⟩
 refine w4 ?_
 refine Qe rfl rfl rfl ?_ rfl
 refine Qe rfl rfl rfl ?_ rfl
 refine Qe rfl rfl rfl ?_ rfl
 refine Qe rfl rfl rfl ?_ rfl
 refine w9 ?_
 refine Qb ?_
 refine l0_ ?_
 exact wp [] ⟨rfl,(Qk (by first | exact Yh (YK d ‹_› (Vx ‹_› ‹_› ‹_›)) | exact Yh (YK d ‹_› (Vp ‹_› ‹_› ‹_›)) | exact congrArg _ (Zq (ZD d fun g=>absurd g.1 ‹_›)) | exact congrArg _ (Zq (ZD d fun g=>absurd ((Vi ‹_›).symm.trans g.2) (by decide))) | exact congrArg _ (Zq (ZD d fun g=>absurd ((VA ‹_›).symm.trans g.2) (by decide))) | exact congrArg _ (Zq (ZD d fun g=>absurd ((Vg ‹_› ‹_›).symm.trans g.2) (by decide))))),trivial⟩
theorem QbV (c:ZX)(N:c.2.1.length≤300):FC Tryz.prog 353 [(true,[.dat Ql c.1, .dat Qj c.2.1, .dat Qv c.2.2])] [] 0 (YV 123 Qi (Yq c (fun _ _=>true) c.2.1.length)):=by
 refine Qp Tryz.func353 rfl rfl Tryz.ntmps353 fun Q L P G R K J=> ?_
 refine w_ ?_
 refine xbx 0 ?_
 refine w9 ?_
 refine alL 7 fun _=> ?_
 refine w4 ?_
 refine AC.wk (Wk.nilS 1 3 123 Qi rfl (Fresh.of rfl) (nlr rfl)) ?_
 refine lp0 c.2.1.length (fun i=>⟨[(1,lP 0 0),(2,lf (.val (.slice none 0 0))),(3,lR 2),(8,lI (c.2.1.length:Int)),(9,lI (i:Int))],[bx 0 28 [.dat Ql c.1, .dat Qj c.2.1, .dat Qv c.2.2],ar 2 123 Qi (Yq c (fun _ _=>true) i)]⟩) ?_ fun i _=> ?_
 exact wp [(2,1)] ⟨rfl,(Qk (rfl)),trivial⟩
 have C:=Qam (c:=c) (f:=fun _ _=>true) (i:=i) N
 refine w4 ?_
 cases v:(decide ((i:Int) < (c.2.1.length:Int)))
 have w:=aa v
 refine w7 ?_
 refine Qd<|fo_ L ?_
 (congr 1; omega)
 have w:=ab v
 refine w14 ?_
 refine QD (fun E F=>∃(m:Int) (d:List (List Int)),E=((c.2.1.length:Int) - m).toNat∧((i:Int)+1≤m∧m≤(c.2.1.length:Int))∧(d=Yq c (fun _ _=>true) i++X5 c (fun _ _=>true) i m.toNat)∧F=⟨[(1,lP 0 0),(2,lf (.val (.slice none 0 0))),(3,lR 3),(4,lI (i:Int)),(5,lI m),(8,lI (c.2.1.length:Int)),(9,lI (i:Int)),(10,lB true),(11,lI (i:Int)),(12,lI (i:Int)),(13,lI ((i:Int)+1))],[bx 0 28 [.dat Ql c.1, .dat Qj c.2.1, .dat Qv c.2.2],ar 3 123 Qi d]⟩) ⟨(i:Int)+1,Yq c (fun _ _=>true) i,rfl,(by omega),(by rw[show ((i:Int)+1).toNat=i+1 by omega,Qdm,bE]),rfl⟩ ?_ ?_
 exact wp [(3,2)] ⟨rfl,(Qk (by first | rfl | simp)),trivial⟩
 rintro E F ⟨m,d,M,S,h,rfl⟩
 have O:d.length≤100000:=by rw[h,ai]; have:=Qee (c:=c) (f:=fun _ _=>true) (i:=i) (k:=m.toNat); have:=C (by omega); omega
 refine w5 ?_
 refine alL 16 fun _=> ?_
 refine w3 ?_
 cases x:(decide (m < (c.2.1.length:Int)))
 have z:=aa x
 refine w6 ?_
 refine Qb ?_
 refine l0_ ?_
 exact wp [(2,3)] ⟨rfl,(Qk ((by rw[h]; exact Qtp (by omega) (by omega)))),trivial⟩
 have z:=ab x
 refine w4 ?_
 obtain ⟨H,D⟩:=gx c.2.1 i
 have o:=D
 obtain ⟨I,A⟩:=gx c.2.1 ((m).toNat)
 have r:=A
 apply dW (i9 21 _ _ _ _ _ _ _ _ _ (i2 30 _ _ [])) [0,0,3,0,0,31,31,127,31,31,0]
 exact y11
 cases t:(decide (H=I))
 have u:=aa t
 refine w7 ?_
 refine Qb<|Zb ⟨(m+1),d,rfl,(by omega),(by rw[h]; first | exact QlL (by omega) r o ‹_› | exact Qrt (by omega) r o ‹_›),rfl⟩ (by omega) ?_
 exact wo []
 have u:=ab t
 refine w5 ?_
 refine lc (dBs 4 (e:= .int) Yt) ?_
 refine lc (dBs 5 (e:=Qi) YR (hab:=by exact ⟨_,_,_,_,rfl,(.inl ⟨_,rfl,rfl,rfl⟩),⟨rfl,rfl⟩,rfl⟩)) ?_
 refine lc (dA 6 UZ) ?_
 refine w_ ?_
 refine Qb ?_
 refine w5 ?_
 refine Qb<|Zb ⟨(m+1),(d++([[(i:Int),m]])),rfl,(by omega),(by rw[h]; first | exact QlL (by omega) r o ‹_› | exact Qrt (by omega) r o ‹_›),rfl⟩ (by omega) ?_
 exact wp [(3,6)] ⟨rfl,(Qk (by first | rfl | simp)),trivial⟩
theorem JD (c:ZX)(A:SgW c):FC Tryz.prog 222 [(true,[.dat Ql c.1, .dat Qj c.2.1, .dat Qv c.2.2])] [] 0 (QX (lf (.dat Z7 (QbF c)))):=by
 have V:∀a∈c.2.2,InR c.2.1.length a:=fun a K=>(A.arcs a K).1
 have N:=A.some_
 have M:=A.few
 have U:=A.sig8
 have P:=Qam (c:=c) (f:=fun _ _=>true) (i:=c.2.1.length) (by omega) (aK _)
 have O:=Wo (ss:=c.1) (k:=c.1.length)
 refine Qp Tryz.func222 rfl rfl Tryz.ntmps222 fun S J R G T I H=> ?_
 refine w_ ?_
 refine xbx 0 ?_
 refine w6 ?_
 refine Zy<|AC.wk (Wk.nilS 1 3 123 Qi rfl (Fresh.of rfl) (nlr rfl))<|AC.wk (Wk.toFz (q:=1) rfl) ?_
 refine w2 ?_
 refine lc (dK (QbV c (by omega)).frozen Qke) ?_
 refine alL 10 fun _=> ?_
 refine w4 ?_
 refine lp0 ((Yq c (fun _ _=>true) c.2.1.length).length) (fun k=>⟨[(1,lP 0 0),(2,lf (.val (.slice none 0 0))),(3,lR 2),(10,lf (.dat Z7 (Yq c (fun _ _=>true) c.2.1.length))),(11,lI ((Yq c (fun _ _=>true) c.2.1.length).length:Int)),(12,lI (k:Int))],[bx 0 28 [.dat Ql c.1, .dat Qj c.2.1, .dat Qv c.2.2],(2,some (.fz 123 Qi (((Yq c (fun _ _=>true) c.2.1.length).take k).filter (QnB c))))]⟩) ?_ fun k _=> ?_
 exact wp [(2,1)] ⟨rfl,(QoY (rfl)),trivial⟩
 have L:=bM (QnB c) ((Yq c (fun _ _=>true) c.2.1.length).take k)
 have Q:((Yq c (fun _ _=>true) c.2.1.length).take k).length≤(Yq c (fun _ _=>true) c.2.1.length).length:=by simp only[ap]; omega
 refine w4 ?_
 cases u:(decide ((k:Int) < ((Yq c (fun _ _=>true) c.2.1.length).length:Int)))
 have w:=aa u
 refine w7 ?_
 refine AC.wk (QcL (i:=2) (q:=2) rfl rfl)<|Qd<|fq_ J ?_
 first | (rw[Za (by omega)]; exact Qpn)
 have w:=ab u
 refine w5 ?_
 obtain ⟨C,o⟩:=gx (Yq c (fun _ _=>true) c.2.1.length) k
 obtain ⟨r,t,d⟩:=QsI o
 have F:C.length=2:=by rw[d]; rfl
 refine w10 ?_
 refine lc (dK (XE c (by omega)).frozen Jb) ?_
 refine alL 17 fun _=> ?_
 refine w4 ?_
 refine lp0 ((Qy c.1 c.1.length).length) (fun j=>⟨[(1,lP 0 0),(2,lf (.val (.slice none 0 0))),(3,lR 2),(5,lf (.dat Qi C)),(6,lB (((Qy c.1 c.1.length).take j).any (fun s=> !(Zc c (r:Int) s==Zc c (t:Int) s)))),(10,lf (.dat Z7 (Yq c (fun _ _=>true) c.2.1.length))),(11,lI ((Yq c (fun _ _=>true) c.2.1.length).length:Int)),(12,lI (k:Int)),(13,lB true),(14,lf (.elt Qi C 0)),(15,lf (.dat Qi C)),(16,ag [.dat Ql c.1, .dat Qj c.2.1, .dat Qv c.2.2]),(17,lf (.dat Qi (Qy c.1 c.1.length))),(18,lI ((Qy c.1 c.1.length).length:Int)),(19,lI (j:Int))],[bx 0 28 [.dat Ql c.1, .dat Qj c.2.1, .dat Qv c.2.2],(2,some (.fz 123 Qi (((Yq c (fun _ _=>true) c.2.1.length).take k).filter (QnB c))))]⟩) ?_ fun j _=> ?_
 exact Wk.of [] rfl ⟨rfl,rfl,rfl,rfl,(show some (lB false)=some (lB (((Qy c.1 c.1.length).take 0).any (fun s=> !(Zc c (r:Int) s==Zc c (t:Int) s)))) from congrArg (fun z_=>some (lB z_)) (rfl)),rfl,rfl,rfl,rfl,rfl,rfl,rfl,rfl,rfl,rfl,trivial⟩ ⟨rfl,rfl,trivial⟩ rfl rfl
 refine w4 ?_
 cases x:(decide ((j:Int) < ((Qy c.1 c.1.length).length:Int)))
 have z:=aa x
 refine w6 ?_
 cases D:(((Qy c.1 c.1.length).take j).any (fun s=> !(Zc c (r:Int) s==Zc c (t:Int) s)))
 refine w6 ?_
 refine Qb ?_
 refine l0_ ?_
 exact wp [] ⟨rfl,(QoY (by first | exact Qmb o (Qaz (k:=j) d (by omega) ‹_›) | exact Qoc o (Qaz (k:=j) d (by omega) ‹_›))),trivial⟩
 refine w4 ?_
 refine lc (H2 3 Wl Yv YR (Qo rfl) (by (rw[d]; simp)) rfl (Fresh.of rfl) (nlr rfl))<|lc (JR 4 (Qa rfl) rfl (Qa rfl) rfl Wl UZ (by first | omega | (simp only[ai,aJ,ap,au,aO]; omega) | (simp only[ai,bG,ap,au,aO]; omega)) rfl (Fresh.of rfl) (nlr rfl)) ?_
 refine w_ ?_
 refine Qb ?_
 refine w4 ?_
 refine Qb ?_
 refine l0_ ?_
 exact wp [(2,4)] ⟨rfl,(QoY (by first | exact Qmb o (Qaz (k:=j) d (by omega) ‹_›) | exact Qoc o (Qaz (k:=j) d (by omega) ‹_›))),trivial⟩
 have z:=ab x
 refine w5 ?_
 obtain ⟨sg,e⟩:=gx (Qy c.1 c.1.length) j
 refine w2 ?_
 refine alI 22 fun _=> ?_
 refine w2 ?_
 cases E:(((Qy c.1 c.1.length).take j).any (fun s=> !(Zc c (r:Int) s==Zc c (t:Int) s)))
 apply dV (i4 23 _ _ _ _ (io 27 (lf (.elt .int (r:Int) 0)) :: i2 28 _ _ (io 30 (lB (Zc c (r:Int) sg)) :: i2 31 _ _ (io 33 (lf (.elt .int (t:Int) 0)) :: i2 34 _ _ [io 36 (lB (Zc c (t:Int) sg)),io 37 (lB (!((Zc c (r:Int) sg)==(Zc c (t:Int) sg)))),io 38 _,io 6 _])))) [0,0,0,4,4,4,60,0,252,508,508,508,4092,0,0,0,0]
 refine z4 ?_
 refine zz (fun _ h=>day rfl (h.k rfl) (VM (h.v rfl) (Qn rfl) Zf ZY rfl (by omega) (by rw[d]; rfl)) rfl) ?_
 refine z2 ?_
 refine zz (fun _ h=>day rfl (h.k rfl) (dK (ZB c (r:Int) sg) Xk) rfl) ?_
 refine z2 ?_
 refine zz (fun _ h=>day rfl (h.k rfl) (VM (h.v rfl) (Qn rfl) Zf ZY rfl (by omega) (by rw[d]; rfl)) rfl) ?_
 refine z2 ?_
 refine zz (fun _ h=>day rfl (h.k rfl) (dK (ZB c (t:Int) sg) Xk) rfl) ?_
 refine zz (fun _ h=>day rfl (h.k rfl) (ZW (h.v rfl) (h.v rfl) rfl Zv) rfl) ?_
 exact y2
 refine w4 ?_
 refine Qb ?_
 refine l0_ ?_
 exact Wk.of [] rfl ⟨rfl,rfl,rfl,rfl,(show some (lB (!((Zc c (r:Int) sg)==(Zc c (t:Int) sg))))=some (lB (((Qy c.1 c.1.length).take (j+1)).any (fun s=> !(Zc c (r:Int) s==Zc c (t:Int) s)))) from congrArg (fun z_=>some (lB z_)) (by first | exact Qpy e ‹_› | exact Qoq e ‹_›)),rfl,rfl,rfl,rfl,rfl,rfl,rfl,rfl,rfl,rfl,trivial⟩ ⟨rfl,rfl,trivial⟩ rfl rfl
 apply dV (i9 23 _ _ _ _ _ _ _ _ _ (i7 32 _ _ _ _ _ _ _ [io 6 _])) [0,0,0,4,4,4,60,0,252,508,508,508,4092,0,0,0,0]
 refine z16 ?_
 exact y1
 refine w4 ?_
 refine Qb ?_
 refine l0_ ?_
 exact Wk.of [] rfl ⟨rfl,rfl,rfl,rfl,(show some (lB true)=some (lB (((Qy c.1 c.1.length).take (j+1)).any (fun s=> !(Zc c (r:Int) s==Zc c (t:Int) s)))) from congrArg (fun z_=>some (lB z_)) (by first | exact Qpy e ‹_› | exact Qoq e ‹_›)),rfl,rfl,rfl,rfl,rfl,rfl,rfl,rfl,rfl,rfl,trivial⟩ ⟨rfl,rfl,trivial⟩ rfl rfl
theorem JK (a:QnF):FC Tryz.prog 291 [(true,[dI a.1,dI a.2.1,dB a.2.2.1,dI a.2.2.2])] [] 0 (QX (lB (decide (a.2.1= -1)))):=by
 refine Qp Tryz.func291 rfl rfl Tryz.ntmps291 fun t o r d u h e=> ?_
 refine acG 0 0 fun _=> ?_
 refine acG 0 1 fun _=> ?_
 refine acG 0 3 fun _=> ?_
 refine w_ ?_
 refine xbx 0 ?_
 refine w8 ?_
 refine Qd<|fqB o ?_
 rfl
theorem KD (l:Qq1):FC Tryz.prog 340 [(false,[.dat Qv l]),(false,[.clo 291 []])] [] 0 (QX (lI (ZO (fun a:DAr=>decide (a.2.1= -1)) l))):=by
 refine Qp Tryz.func340 rfl rfl Tryz.ntmps340 fun C v A w D z x=> ?_
 refine w6 ?_
 refine alL 6 fun _=> ?_
 refine w4 ?_
 refine lpK l.length (fun k=>NoneTo (fun a:DAr=>decide (a.2.1= -1)) l k) (fun k=>⟨[(0,lf (.dat Qv l)),(1,lf (.clo 291 [])),(7,lI (l.length:Int)),(8,lI (k:Int))],[]⟩) (NoneTo.zero) ?_ fun k _ d=> ?_
 exact wo []
 refine w4 ?_
 cases h:(decide ((k:Int) < (l.length:Int)))
 have o:=aa h
 refine w6 ?_
 refine Qd<|fqI v ?_
 first | exact (d.no (by omega)).symm
 have o:=ab h
 refine w12 ?_
 obtain ⟨e,u⟩:=gx l k
 refine w2 ?_
 refine lc (Yz (args0:=[(true,[dI e.1,dI e.2.1,dB e.2.2.1,dI e.2.2.2])]) (caps:=[]) 0 [] (JK e) QkT rfl (Qa rfl) rfl rfl ⟨_,_,rfl,(Qo rfl),rfl⟩ trivial rfl trivial (nlr rfl)) ?_
 refine w_ ?_
 cases r:(decide (e.2.1= -1))
 have t:=aa r
 refine w6 ?_
 refine Qb ?_
 refine lK_ (d.step u (by first | assumption | (simp[*]; done))) ?_
 exact wo []
 have t:=ab r
 refine w5 ?_
 refine Qd<|fqI v ?_
 exact (d.at u (by first | assumption | (simp[*]; done))).symm
theorem Ui (l:Qq1):FC Tryz.prog 204 [(false,[.dat Qv l]),(false,[.clo 291 []])] [] 0 (QX (lB (l.any (fun a:DAr=>decide (a.2.1= -1))))):=by
 refine Qp Tryz.func204 rfl rfl Tryz.ntmps204 fun t o r d u h e=> ?_
 refine w6 ?_
 refine lc (dK (KD l) QcI) ?_
 refine w3 ?_
 refine Qd<|fqB o ?_
 exact Uw _ _
theorem HM (c:ZX)(d:SgW c):FC Tryz.prog 152 [(true,[.dat Ql c.1, .dat Qj c.2.1, .dat Qv c.2.2])] [] 0 (QX (lf (dS (QL c)))):=by
 have o:∀a∈c.2.2,InR c.2.1.length a:=fun a h=>(d.arcs a h).1
 have x:=d.some_
 have w:=d.few
 have D:=d.sig8
 refine Qp Tryz.func152 rfl rfl Tryz.ntmps152 fun A e z r C u t=> ?_
 refine w_ ?_
 refine xbx 0 ?_
 refine w7 ?_
 refine lc (Us (Ui c.2.2) QdQ ⟨_,_,rfl,(Qo rfl),⟨_,_,rfl,(Evl.ev Qp5),rfl⟩⟩ rfl rfl) ?_
 refine w2 ?_
 cases v:(c.2.2.any (fun a:DAr=>decide (a.2.1= -1)))
 refine w3 ?_
 refine lc (dK (Qb2 c (by omega) (fun a h=>QkG (d.arcs a h).2)).frozen QjZ) ?_
 refine alL 9 fun _=> ?_
 refine w4 ?_
 refine cd_ (fun _ _=> ?_) fun _ _=> ?_
 refine w2 ?_
 refine lc (dK (Hq c d).frozen Qjg) ?_
 refine alL 14 fun _=> ?_
 refine w4 ?_
 refine cd_ (fun _ _=> ?_) fun _ _=> ?_
 refine w2 ?_
 refine lc (dK (Qad c d) QkJ) ?_
 refine alL 19 fun _=> ?_
 refine w4 ?_
 refine cd_ (fun _ _=> ?_) fun _ _=> ?_
 refine w5 ?_
 refine Qd<|fqS e ?_
 exact Qw8 ‹_› ‹_› (QoE o ‹_›) ‹_›
 refine w3 ?_
 refine Qd<|fqS e ?_
 exact QvX ‹_› ‹_› (QoE o ‹_›) ‹_›
 refine w3 ?_
 refine Qd<|fqS e ?_
 exact Qwm ‹_› ‹_› (QuN o ‹_›)
 refine w3 ?_
 refine Qd<|fqS e ?_
 exact Qxl ‹_› ‹_›
 refine w4 ?_
 refine Qd<|fqS e ?_
 exact Qxk ‹_›
theorem Qbg (c:ZX)(C:∀a∈c.2.2, -1≤a.2.1):FC Tryz.prog 219 [(true,[.dat Ql c.1, .dat Qj c.2.1, .dat Qv c.2.2])] [] 0 (QX (lB (Qhf c))):=by
 refine Qp Tryz.func219 rfl rfl Tryz.ntmps219 fun F u D w G z x=> ?_
 refine w_ ?_
 refine xbx 0 ?_
 refine w6 ?_
 refine alL 6 fun _=> ?_
 refine w4 ?_
 refine lpK c.2.2.length (fun k=>∀j,j < k→∀a,c.2.2[j]? =some a→¬a.2.1 < 0) (fun k=>⟨[(6,lf (.dat Qv c.2.2)),(7,lI (c.2.2.length:Int)),(8,lI (k:Int))],[]⟩) ((fun j A=>absurd A (aW j))) ?_ fun k _ t=> ?_
 exact wo []
 refine w4 ?_
 cases e:(decide ((k:Int) < (c.2.2.length:Int)))
 have h:=aa e
 refine w6 ?_
 refine Qd<|fqB u ?_
 first | exact Qu7 t (by omega)
 have h:=ab e
 refine w5 ?_
 obtain ⟨E,d⟩:=gx c.2.2 k
 have v:=QdM C d
 refine w2 ?_
 refine lc (xal 1 YE ZG) ?_
 refine w5 ?_
 refine alI 13 fun _=> ?_
 refine w2 ?_
 cases o:(decide (E.2.1 < 0))
 have r:=aa o
 refine w6 ?_
 refine Qb ?_
 refine lK_ ((Xq t d ‹_›)) ?_
 exact wo []
 have r:=ab o
 refine w4 ?_
 refine Qd<|fqB u ?_
 exact Qsq d ‹_› ‹_›
theorem XD (c:ZX)(d:SgW c):FC Tryz.prog 82 [(true,[.dat Ql c.1, .dat Qj c.2.1, .dat Qv c.2.2])] [] 0 (QX (lf (dS (QL c)))):=by
 have C:∀a∈c.2.2,InR c.2.1.length a:=fun a h=>(d.arcs a h).1
 have v:=d.some_
 have u:=d.few
 have A:=d.sig8
 refine Qp Tryz.func82 rfl rfl Tryz.ntmps82 fun x e w o z t r=> ?_
 refine w_ ?_
 refine xbx 0 ?_
 refine w6 ?_
 refine lc (dK (Qbg c (fun a h=>QkG (d.arcs a h).2)) QiO) ?_
 refine w2 ?_
 refine cb_ (fun _=> ?_) fun _=> ?_
 refine w2 ?_
 refine lc (dK (QdV c (by omega) (fun a h=>QkG (d.arcs a h).2)).frozen QjV) ?_
 refine alL 8 fun _=> ?_
 refine w4 ?_
 refine cd_ (fun _ _=> ?_) fun _ _=> ?_
 refine w2 ?_
 refine lc (dK (Qbj c d).frozen Qko) ?_
 refine alL 13 fun _=> ?_
 refine w4 ?_
 refine cd_ (fun _ _=> ?_) fun _ _=> ?_
 refine w2 ?_
 refine lc (dK (JD c d) QiN) ?_
 refine alL 18 fun _=> ?_
 refine w4 ?_
 refine cd_ (fun _ _=> ?_) fun _ _=> ?_
 refine w5 ?_
 refine Qd<|fqS e ?_
 exact Qw8 ‹_› ‹_› ‹_› ‹_›
 refine w3 ?_
 refine Qd<|fqS e ?_
 exact QvX ‹_› ‹_› ‹_› ‹_›
 refine w3 ?_
 refine Qd<|fqS e ?_
 exact Qwm ‹_› ‹_› ‹_›
 refine w3 ?_
 refine Qd<|fqS e ?_
 exact Qxl ‹_› ‹_›
 refine w3 ?_
 refine Qd<|fqS e ?_
 exact Qxk ‹_›
theorem Qbe (c:ZX)[∀c,Decidable (SgOk c)]:FC Tryz.prog 185 [(true,[.dat Ql c.1, .dat Qj c.2.1, .dat Qv c.2.2])] [] 0 (QX (PV.tup [(false,[dS (if SgOk c then QL c else ⟨#[]⟩)]),(false,[dB (decide (SgOk c))])])):=by
 refine Qp Tryz.func185 rfl rfl Tryz.ntmps185 fun D o C r E A z=> ?_
 refine w_ ?_
 refine xbx 0 ?_
 refine w6 ?_
 refine lc (dK (VH c) Qjy) ?_
 refine w2 ?_
 cases d:(decide (SgOk c))
 have h:=aa d
 refine w6 ?_
 have t:((⟨#[]⟩:ByteArray):ByteArray)=(if SgOk c then QL c else ⟨#[]⟩):=by
  (simp[*]; done)
 have u:(false:Bool)=(decide (SgOk c)):=by
  (simp[*]; done)
 exact fr_ o (e:=((congrArg (fun z_=>PV.tup [(false,[dS z_]),(false,[dB false])]) t)).trans (congrArg (fun z_=>PV.tup [(false,[dS (if SgOk c then QL c else ⟨#[]⟩)]),(false,[dB z_])]) u))
 have h:=ab d
 refine w4 ?_
 refine lc (dK (HM c (by assumption:SgOk c).w) Qjw) ?_
 refine w4 ?_
 have v:(QL c:ByteArray)=(if SgOk c then QL c else ⟨#[]⟩):=by
  (simp[*]; done)
 have x:(true:Bool)=(decide (SgOk c)):=by
  (simp[*]; done)
 exact fr_ o (e:=((congrArg (fun z_=>PV.tup [(false,[dS z_]),(false,[dB true])]) v)).trans (congrArg (fun z_=>PV.tup [(false,[dS (if SgOk c then QL c else ⟨#[]⟩)]),(false,[dB z_])]) x))
theorem V9 (c:ZX)[∀c,Decidable (SgOk c)]:FC Tryz.prog 58 [(true,[.dat Ql c.1, .dat Qj c.2.1, .dat Qv c.2.2])] [] 0 (QX (PV.tup [(false,[dB (decide ((if SgOk c then QL c else ⟨#[]⟩)=QB))]),(false,[dB (decide (SgOk c))])])):=by
 refine Qp Tryz.func58 rfl rfl Tryz.ntmps58 fun v t u d w r o=> ?_
 refine w_ ?_
 refine xbx 0 ?_
 refine w5 ?_
 refine lc (dK (Qbe c) QkD) ?_
 refine w14 ?_
 have h:(decide ((if SgOk c then QL c else ⟨#[]⟩)=(⟨#[109,97,100,101]⟩:ByteArray)):Bool)=(decide ((if SgOk c then QL c else ⟨#[]⟩)=QB)):=by
  rfl
 exact fr_ t (e:=by rw[h] <;> rfl)
theorem Qt3 {c:DSg}[Decidable (SgOk c)](h:SgOk c):decide ((if SgOk c then QL c else ⟨#[]⟩)=QB)=decide (SgOk c∧QL c=QB):=by rw[if_pos h]; simp[h]
theorem QuX {c:DSg}[Decidable (SgOk c)](h:¬SgOk c):false=decide (SgOk c∧QL c=QB):=(aB fun g=>h g.1).symm
theorem X3 (c:ZX)[∀c,Decidable (SgOk c)]:FC Tryz.prog 77 [(true,[.dat Ql c.1, .dat Qj c.2.1, .dat Qv c.2.2])] [] 0 (QX (lB (decide (SgOk c∧QL c=QB)))):=by
 refine Qp Tryz.func77 rfl rfl Tryz.ntmps77 fun v h u o w t r=> ?_
 refine w_ ?_
 refine xbx 0 ?_
 refine w4 ?_
 refine lc (dK (V9 c) QnE) ?_
 refine w9 ?_
 cases d:(decide (SgOk c))
 have e:=aa d
 refine w4 ?_
 refine Qd<|fqB h ?_
 exact QuX ‹_›
 have e:=ab d
 refine w4 ?_
 refine Qd<|fqB h ?_
 exact Qt3 ‹_›
theorem Qv9 {c:DSg}{sig:Int}[Decidable (SgOk c)](h:¬(0≤sig∧sig≤(c.1.length:Int) - 1)):false=decide ((0≤sig∧sig≤(c.1.length:Int) - 1)∧QR c sig=false∧SgOk c∧QL c=QB):=(aB fun g=>h g.1).symm
theorem Qvz {c:DSg}{sig:Int}{x:Qz}[Decidable (SgOk c)](h:0≤sig∧sig≤(c.1.length:Int) - 1)(o:c.1[sig.toNat]? =some x)(e:x.2=1):false=decide ((0≤sig∧sig≤(c.1.length:Int) - 1)∧QR c sig=false∧SgOk c∧QL c=QB):=(aB fun g=>by
 have d:=g.2.1
 rw[← J7 h.1 o,aE e] at d; cases d).symm
theorem QwI {c:DSg}{sig:Int}{x:Qz}[Decidable (SgOk c)](h:0≤sig∧sig≤(c.1.length:Int) - 1)(o:c.1[sig.toNat]? =some x)(d:¬x.2=1):decide (SgOk c∧QL c=QB)=decide ((0≤sig∧sig≤(c.1.length:Int) - 1)∧QR c sig=false∧SgOk c∧QL c=QB):=by
 have e:QR c sig=false:=by rw[← J7 h.1 o,aB d]
 simp[h,e]
theorem QwW {c:DSg}{sig:Int}[Decidable (SgOk c)](h:decide (SgOk c∧(0≤sig∧sig≤(c.1.length:Int) - 1)∧QR c sig=false)=true):decide (QL c=QB)=decide ((0≤sig∧sig≤(c.1.length:Int) - 1)∧QR c sig=false∧SgOk c∧QL c=QB):=by
 have h:=ab h
 simp[h.1,h.2.1,h.2.2]
theorem Qxd {c:DSg}{sig:Int}[Decidable (SgOk c)](h:decide (SgOk c∧(0≤sig∧sig≤(c.1.length:Int) - 1)∧QR c sig=false)=false):false=decide ((0≤sig∧sig≤(c.1.length:Int) - 1)∧QR c sig=false∧SgOk c∧QL c=QB):=by
 have h:=aa h
 exact (aB fun g=>h ⟨g.2.2.1,g.1,g.2.1⟩).symm
theorem QwS {c:DSg}{sig:Int}{x:Qz}[Decidable (SgOk c)](h0:SgOk c)(h:0≤sig∧sig≤(c.1.length:Int) - 1)(d:c.1[sig.toNat]? =some x):(!decide (x.2=1))=decide (SgOk c∧(0≤sig∧sig≤(c.1.length:Int) - 1)∧QR c sig=false):=by
 rw[← J7 h.1 d]; simp[h0,h]
theorem QvU {c:DSg}{sig:Int}[Decidable (SgOk c)](h:¬(0≤sig∧sig≤(c.1.length:Int) - 1)):false=decide (SgOk c∧(0≤sig∧sig≤(c.1.length:Int) - 1)∧QR c sig=false):=(aB fun g=>h g.2.1).symm
theorem Qv0 {c:DSg}{sig:Int}[Decidable (SgOk c)](h:¬SgOk c):false=decide (SgOk c∧(0≤sig∧sig≤(c.1.length:Int) - 1)∧QR c sig=false):=(aB fun g=>h g.1).symm
theorem Qae (c:ZX)(sig:Int)[∀c,Decidable (SgOk c)]:FC Tryz.prog 240 [(true,[.dat Ql c.1, .dat Qj c.2.1, .dat Qv c.2.2]),(false,[dI sig])] [] 0 (QX (lB (decide ((0≤sig∧sig≤(c.1.length:Int) - 1)∧QR c sig=false∧SgOk c∧QL c=QB)))):=by
 refine Qp Tryz.func240 rfl rfl Tryz.ntmps240 fun A t z v C x w=> ?_
 refine acI 1 fun _=> ?_
 refine w_ ?_
 refine xbx 0 ?_
 refine w6 ?_
 refine alL 7 fun _=> ?_
 refine w2 ?_
 refine lc (dK (Q9 sig 0 ((c.1.length:Int) - 1)) ZP) ?_
 refine w_ ?_
 cases d:(decide (0≤sig∧sig≤((c.1.length:Int) - 1)))
 have e:=aa d
 refine w14 ?_
 refine Qd<|fqB t ?_
 first | exact Qv9 ‹_›
 have e:=ab d
 refine w3 ?_
 obtain ⟨u,r⟩:=gx c.1 ((sig).toNat)
 refine w6 ?_
 cases h:(!decide (u.2=1))
 have o:(u.2=1):=Qu h
 refine w5 ?_
 refine Qd<|fqB t ?_
 exact Qvz ‹_› r ‹_›
 have o:¬(u.2=1):=QE h
 refine w_ ?_
 refine lgy rfl rfl (dK (X3 c) Jp) ?_
 refine w3 ?_
 refine Qd<|fqB t ?_
 exact QwI ‹_› r ‹_›
theorem Qbm (c:ZX)(sig:Int)[∀c,Decidable (SgOk c)]:FC Tryz.prog 358 [(true,[.dat Ql c.1, .dat Qj c.2.1, .dat Qv c.2.2]),(false,[dI sig])] [] 0 (QX (lB (decide (SgOk c∧(0≤sig∧sig≤(c.1.length:Int) - 1)∧QR c sig=false)))):=by
 refine Qp Tryz.func358 rfl rfl Tryz.ntmps358 fun z r x u A w v=> ?_
 refine acI 1 fun _=> ?_
 refine w_ ?_
 refine xbx 0 ?_
 refine w4 ?_
 refine lc (dK (X0 c) JA) ?_
 refine w_ ?_
 cases d:(decide (SgOk c))
 have e:=aa d
 refine w16 ?_
 refine w2 ?_
 refine Qd<|fqB r ?_
 exact Qv0 ‹_›
 have e:=ab d
 refine w3 ?_
 refine alL 10 fun _=> ?_
 refine w2 ?_
 refine lgy rfl rfl (dK (Yw sig 0 ((c.1.length:Int) - 1)) Xd) ?_
 refine w2 ?_
 cases h:(decide (0≤sig∧sig≤((c.1.length:Int) - 1)))
 have o:=aa h
 refine w10 ?_
 refine Qd<|fqB r ?_
 exact QvU ‹_›
 have o:=ab h
 refine w3 ?_
 obtain ⟨C,t⟩:=gx c.1 ((sig).toNat)
 refine w7 ?_
 refine Qd<|fqB r ?_
 exact QwS ‹_› ‹_› t
theorem QaM (c:ZX)(sig:Int)[∀c,Decidable (SgOk c)]:FC Tryz.prog 238 [(true,[.dat Ql c.1, .dat Qj c.2.1, .dat Qv c.2.2]),(false,[dI sig])] [] 0 (QX (lB (decide ((0≤sig∧sig≤(c.1.length:Int) - 1)∧QR c sig=false∧SgOk c∧QL c=QB)))):=by
 refine Qp Tryz.func238 rfl rfl Tryz.ntmps238 fun v h u o w t r=> ?_
 refine acI 1 fun _=> ?_
 refine w_ ?_
 refine xbx 0 ?_
 refine w5 ?_
 refine lc (dK (Qbm c sig) Qjj) ?_
 refine w_ ?_
 cases d:(decide (SgOk c∧(0≤sig∧sig≤(c.1.length:Int) - 1)∧QR c sig=false))
 have e:=aa d
 refine w6 ?_
 refine Qd<|fqB h ?_
 exact Qxd ‹_›
 have e:=ab d
 refine w_ ?_
 refine lgy rfl rfl (dK (XD c (by assumption:SgOk c∧_).1.w) Uc) ?_
 refine w4 ?_
 refine Qd<|fqB h ?_
 exact QwW ‹_›
end Go.Proofs.YtndabgcpnmeeoaaGreat
