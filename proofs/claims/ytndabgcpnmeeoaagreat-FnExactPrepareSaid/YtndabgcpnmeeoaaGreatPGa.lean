/- Walks over abstract states: what speaks against an implementation, both sides. -/
import Derived.Test.YtndabgcpnmeeoaaGreatPUk
import Derived.Test.YtndabgcpnmeeoaaGreatPUa
import Derived.Test.YtndabgcpnmeeoaaGreatPAg
set_option linter.unusedSimpArgs false
set_option linter.unusedVariables false
set_option linter.unusedSectionVars false
namespace Go.Proofs.YtndabgcpnmeeoaaGreat
open Go.RowKit
set_option maxRecDepth 100000
set_option maxHeartbeats 4000000
def rg {β:Type}(f:Nat→Option β)(m:Nat):List β:=(List.range m).filterMap f
def rf {β:Type}(f:Nat→List β)(m:Nat):List β:=(List.range m).flatMap f
section
variable {β:Type}{f:Nat→Option β}{g:Nat→List β}{m n i j k b:Nat}{y:β}{B:List β}
theorem Yp (h:f m=some y):B++rg f m++[y]=B++rg f (m+1):=by
 unfold rg; rw[bJ,List.filterMap_append]; simp[h]
theorem ZI (h:f m=none):rg f m=rg f (m+1):=by
 unfold rg; rw[bJ,List.filterMap_append]; simp[h]
theorem Qbw:(rg f m).length≤m:=aU (List.length_filterMap_le ..) (by simp)
theorem Qte (h:∀j,j < m→f j=none):rg f m=[]:=by
 unfold rg; rw[List.filterMap_eq_nil_iff]; intro j d; exact h j (cj.1 d)
theorem Qah:rf g i++g i=rf g (i+1):=by unfold rf; rw[bJ,db]; simp
theorem Qtc (h:∀i,(g i).length≤b):(rf g n).length≤n*b:=by
 induction n with
 | zero=>simp[rf]
 | succ n d=>rw[← Qah,aj,Nat.succ_mul]; have:=h n; omega
theorem Qtd:rg f m=[]↔∀j,j < m→f j=none:=by unfold rg; rw[List.filterMap_eq_nil_iff]; simp
theorem Qwt:rf g m=[]↔∀j,j < m→g j=[]:=by unfold rf; rw[List.flatMap_eq_nil_iff]; simp
end
def arA (as_:List DAr)(j:Nat):DAr:=(as_[j]?).getD (0,0,false,0)
theorem Hh {as_:List DAr}{j:Nat}{a:DAr}(h:as_[j]? =some a):arA as_ j=a:=by unfold arA; rw[h]; rfl
def Qeq (as_:List DAr)(i j:Nat):Option (List Int):=if i < j∧0≤(arA as_ i).2.1∧(arA as_ j).1=(arA as_ i).1∧(arA as_ j).2.1=(arA as_ i).2.1∧(arA as_ j).2.2.2≠(arA as_ i).2.2.2 then some [(i:Int),(j:Int)] else none
def HO (as_:List DAr)(i:Nat):List (List Int):=rf (fun i=>rg (Qeq as_ i) as_.length) i
section
variable {as_:List DAr}{a b:DAr}{i j k m:Nat}{c:DSg}{s q:Int}
theorem QtI (r:as_[i]? =some a)(t:as_[j]? =some b)(h:i < j)(h0:0≤a.2.1)(d:b.1=a.1)(e:b.2.1=a.2.1)(o:¬b.2.2.2=a.2.2.2):Qeq as_ i j=some [(i:Int),(j:Int)]:=by
 unfold Qeq; rw[Hh r,Hh t,if_pos ⟨h,h0,d,e,o⟩]
theorem U3 (d:as_[i]? =some a)(e:as_[j]? =some b)(h:¬(0≤a.2.1∧b.1=a.1∧b.2.1=a.2.1∧¬b.2.2.2=a.2.2.2)):Qeq as_ i j=none:=by
 unfold Qeq; rw[Hh d,Hh e,if_neg fun g=>h g.2]
theorem QiA:rg (Qeq as_ i) (i+1)=[]:=Qte fun j d=>if_neg fun g=>by omega
theorem Qvd:(HO as_ i).length≤i*as_.length:=Qtc fun _=>Qbw
theorem QpU (h:as_.length≤4000)(hi:i≤as_.length):(HO as_ i).length≤16000000:=aU Qvd (aU (cY (aU hi h) h) (by decide))
def Hl (c:DSg)(k s:Int)(a:DAr):Bool:= !decide (a.2.1=s)&&(!ZT c a.2.2.2 s&& !(Yu c s&&Yu c a.2.1))
def Qkl (c:DSg)(k s:Int)(n:Nat):Option (Int×Int×Int):=if (arA c.2.2 n).1=k∧Hl c k s (arA c.2.2 n)=true then some (k,s,(n:Int)) else none
def QiP (c:DSg)(ts:List Int)(k s:Int)(i:Nat):Option (Int×Int×Int):=match ts[i]? with
 | some q=>if Hl c k s (arA c.2.2 q.toNat)=true then some (k,s,q) else none
 | none=>none
def nxA (c:DSg)(k:Nat):List Int:=((Q9 c.2.1.length (ixE c.2.2))[k]?).getD []
def Vm (c:DSg)(r:Nat→Nat→List (Int×Int×Int))(k j:Nat):List (Int×Int×Int):=rf (fun s=>if ZT c (k:Int) (s:Int)=true then r k s else []) j
def rwS (c:DSg)(k s:Nat):List (Int×Int×Int):=rg (Qkl c k s) c.2.2.length
def rwI (c:DSg)(k s:Nat):List (Int×Int×Int):=rg (QiP c (nxA c k) k s) (nxA c k).length
def WH (c:DSg)(r:Nat→Nat→List (Int×Int×Int))(n:Nat):List (Int×Int×Int):=rf (fun k=>Vm c r k c.1.length) n
theorem YP (d:c.2.2[m]? =some a)(h:a.1=q)(e:Hl c q s a=true):Qkl c q s m=some (q,s,(m:Int)):=by unfold Qkl; rw[Hh d,if_pos ⟨h,e⟩]
theorem Zs (d:c.2.2[m]? =some a)(h:¬(a.1=q∧Hl c q s a=true)):Qkl c q s m=none:=by unfold Qkl; rw[Hh d,if_neg h]
theorem Xp {ts:List Int}{t:Int}(h:ts[m]? =some t)(d:c.2.2[t.toNat]? =some a)(e:Hl c q s a=true):QiP c ts q s m=some (q,s,t):=by
 unfold QiP; rw[h]; show (if _ then _ else _)=_; rw[Hh d,if_pos e]
theorem YM {ts:List Int}{t:Int}(h:ts[m]? =some t)(d:c.2.2[t.toNat]? =some a)(e:Hl c q s a=false):QiP c ts q s m=none:=by
 unfold QiP; rw[h]; show (if _ then _ else _)=_; rw[Hh d,if_neg (by rw[e]; decide)]
theorem Ud (h:a.2.1=s):Hl c q s a=false:=by unfold Hl; rw[aL h]; rfl
theorem Ue (h:ZT c a.2.2.2 s=true):Hl c q s a=false:=by unfold Hl; rw[h]; simp
theorem Uf (h:Yu c s=true)(d:Yu c a.2.1=true):Hl c q s a=false:=by unfold Hl; rw[h,d]; simp
theorem Ug (h:¬a.2.1=s)(d:ZT c a.2.2.2 s=false)(e:Yu c s=false):Hl c q s a=true:=by unfold Hl; rw[aB h,d,e]; rfl
theorem Uh (h:¬a.2.1=s)(d:ZT c a.2.2.2 s=false)(e:Yu c a.2.1=false):Hl c q s a=true:=by unfold Hl; rw[aB h,d,e]; simp
theorem Qu0 {s k:Nat}:(rwS c k s).length≤c.2.2.length:=Qbw
theorem Qn9 {ts:List Int}(h:(Q9 c.2.1.length (ixE c.2.2))[k]? =some ts):nxA c k=ts:=by unfold nxA; rw[h]; rfl
theorem QuZ {s k:Nat}(r:k < c.2.1.length):(rwI c k s).length≤c.2.2.length:=by
 obtain ⟨e,d⟩:∃e,(Q9 c.2.1.length (ixE c.2.2))[k]? =some e:=⟨_,ae (by rw[Xa]; exact r)⟩
 have h:(rwI c k s).length≤(nxA c k).length:=Qbw
 have o:=KU d
 rw[Qcl] at o
 rw[Qn9 d] at h
 omega
theorem Qkm {r:Nat→Nat→List (Int×Int×Int)}(h:∀s,(r k s).length≤c.2.2.length):(Vm c r k j).length≤j*c.2.2.length:=Qtc fun s=>by
 split
 ·exact h s
 ·exact aG _
theorem QrZ {r:Nat→Nat→List (Int×Int×Int)}{n:Nat}(h:∀k s,k < n→(r k s).length≤c.2.2.length):(WH c r n).length≤n*(c.1.length*c.2.2.length):=by
 induction n with
 | zero=>simp[WH,rf]
 | succ n e=>
  have o:=e fun k s u=>h k s (by omega)
  have t:(Vm c r n c.1.length).length≤c.1.length*c.2.2.length:=Qkm fun s=>h n s (by omega)
  have d:WH c r n++Vm c r n c.1.length=WH c r (n+1):=Qah
  rw[← d,aj,Nat.succ_mul]; omega
theorem QoM (e:SgW c){r:Nat→Nat→List (Int×Int×Int)}{n:Nat}(D:n≤c.2.1.length)(C:j≤c.1.length)(h:∀k s,k < c.2.1.length→(r k s).length≤c.2.2.length):(WH c r n).length≤9600000∧(k < c.2.1.length→(Vm c r k j).length≤32000):=by
 have u:=e.sig8; have v:=e.some_; have d:=e.few
 have w:=QrZ (c:=c) (r:=r) (n:=n) fun k s o=>h k s (by omega)
 have t:c.1.length*c.2.2.length≤8*4000:=cY u d
 have x:n*(c.1.length*c.2.2.length)≤300*(8*4000):=cY (by omega) t
 refine ⟨by omega,fun o=> ?_⟩
 have z:(Vm c r k j).length≤j*c.2.2.length:=Qkm fun s=>h k s o
 have A:j*c.2.2.length≤8*4000:=cY (by omega) d
 omega
theorem QhG {r:Nat→Nat→List (Int×Int×Int)}(h:c.1.length≤j)(d:j≤c.1.length):WH c r k++Vm c r k j=WH c r (k+1):=by
 obtain rfl:j=c.1.length:=by omega
 exact Qah
theorem Qey {r:Nat→Nat→List (Int×Int×Int)}{L:List (Int×Int×Int)}(h:ZT c (k:Int) (j:Int)=false):L++Vm c r k j=L++Vm c r k (j+1):=by
 have:Vm c r k j++(if ZT c (k:Int) (j:Int)=true then r k j else [])=Vm c r k (j+1):=Qah
 rw[← this,if_neg (by rw[h]; decide),bs]
theorem Qkn {r:Nat→Nat→List (Int×Int×Int)}{L:List (Int×Int×Int)}(h:ZT c (k:Int) (j:Int)=true):L++Vm c r k j++r k j=L++Vm c r k (j+1):=by
 have:Vm c r k j++(if ZT c (k:Int) (j:Int)=true then r k j else [])=Vm c r k (j+1):=Qah
 rw[← this,if_pos h,aO]
theorem QhI {L:List (Int×Int×Int)}{i:Nat}(h:ZT c (k:Int) (j:Int)=true)(hi:c.2.2.length≤i)(d:i≤c.2.2.length):L++Vm c (rwS c) k j++rg (Qkl c k j) i=L++Vm c (rwS c) k (j+1):=by
 obtain rfl:i=c.2.2.length:=by omega
 exact Qkn (r:=rwS c) h
theorem QhH {L:List (Int×Int×Int)}{i:Nat}{ts:List Int}(h:ZT c (k:Int) (j:Int)=true)(o:(Q9 c.2.1.length (ixE c.2.2))[k]? =some ts)(hi:ts.length≤i)(d:i≤ts.length):L++Vm c (rwI c) k j++rg (QiP c ts k j) i=L++Vm c (rwI c) k (j+1):=by
 obtain rfl:i=ts.length:=by omega
 have e:rg (QiP c ts k j) ts.length=rwI c k j:=by unfold rwI; rw[Qn9 o]
 rw[e]; exact Qkn (r:=rwI c) h
theorem Qpq (e:∀a∈c.2.2,InR c.2.1.length a)(h0:0≤q∧q < (c.2.1.length:Int))(o:0≤s){y:Int}(r:(YT c.2.1.length c.2.2)[q.toNat]? =some y):decide ((((y / 2 ^ (2*s).toNat).toNat &&& (3:Int).toNat:Nat):Int)=0)= !ZT c q s:=by
 have h:=HG (c:=c) (k:=q.toNat) (s:=s) (fun a d=>(e a d).1.1) (by omega) o
 rw[show ((q.toNat:Nat):Int)=q by omega] at h
 rw[Jx r] at h
 exact h
theorem JQ (d:∀a∈c.2.2,InR c.2.1.length a)(h0:0≤q∧q < (c.2.1.length:Int))(e:0≤s){y:Int}(o:(YT c.2.1.length c.2.2)[q.toNat]? =some y)(h:(((y / 2 ^ (2*s).toNat).toNat &&& (3:Int).toNat:Nat):Int)=0):ZT c q s=false:=by
 have:=Qpq d h0 e o
 rw[aL h] at this
 simpa using this.symm
theorem QgC (d:∀a∈c.2.2,InR c.2.1.length a)(h0:0≤q∧q < (c.2.1.length:Int))(e:0≤s){y:Int}(o:(YT c.2.1.length c.2.2)[q.toNat]? =some y)(h:¬(((y / 2 ^ (2*s).toNat).toNat &&& (3:Int).toNat:Nat):Int)=0):ZT c q s=true:=by
 have:=Qpq d h0 e o
 rw[aB h] at this
 simpa using this.symm
theorem Qlm {k s:Nat}(E:∀a∈c.2.2,InR c.2.1.length a)(D:k < c.2.1.length):rwI c k s=[]↔rwS c k s=[]:=by
 obtain ⟨o,e⟩:∃o,(Q9 c.2.1.length (ixE c.2.2))[k]? =some o:=⟨_,ae (by rw[Xa]; exact D)⟩
 have z:∀x,x∈o↔_:=fun x=>Qae (x:=x) (fun a d=>(E a d).1.1) e
 unfold rwI rwS
 rw[Qn9 e,Qtd,Qtd]
 constructor
 ·intro h m v
  have d:c.2.2[m]? =some c.2.2[m]:=ae v
  by_cases r:c.2.2[m].1=(k:Int)
  ·obtain ⟨i,u⟩:=aN.1 ((z (m:Int)).2 ⟨m,_,d,r,rfl⟩)
   have t:=h i (ai.1 u).1
   refine Zs d fun g=> ?_
   rw[Xp u (by simp) g.2] at t
   cases t
  ·exact Zs d fun g=>r g.1
 ·intro h i u
  have A:o[i]? =some o[i]:=ae u
  obtain ⟨j,a,d,r,t⟩:=(z _).1 (ah A)
  have w:=h j (ai.1 d).1
  refine YM A (a:=a) (by rw[t]; simpa using d) ?_
  cases C:Hl c k s a with
  | false=>rfl
  | true=>rw[YP d r C] at w; cases w
theorem Qko (t:∀a∈c.2.2,InR c.2.1.length a):decide (0 < ((WH c (rwI c) c.2.1.length).length:Int))=decide (0 < ((WH c (rwS c) c.2.1.length).length:Int)):=by
 have h:WH c (rwI c) c.2.1.length=[]↔WH c (rwS c) c.2.1.length=[]:=by
  unfold WH Vm
  simp only[Qwt]
  constructor
  ·intro h k o s r
   have:=h k o s r
   split at this
   ·rename_i d; rw[if_pos d]; exact (Qlm t o).1 this
   ·rename_i d; rw[if_neg d]
  ·intro h k o s r
   have:=h k o s r
   split at this
   ·rename_i d; rw[if_pos d]; exact (Qlm t o).2 this
   ·rename_i d; rw[if_neg d]
 have e:∀l:List (Int×Int×Int),decide (0 < (l.length:Int))= !decide (l=[]):=fun l=>by cases l <;> simp
 rw[e,e]
 congr 1
 exact cN.2 h
end
def Qjb (c:DSg):Bool:=c.2.2.any fun a=>decide (a.2.1= -1)
abbrev Vs:ByteArray:=⟨#[109,97,100,101]⟩
def YW (c:DSg):ByteArray:=if Qjb c=true then ⟨#[104,105,100,100,101,110]⟩ else if 0 < ((HO c.2.2 c.2.2.length).length:Int) then ⟨#[116,119,111,32,119,97,121,115]⟩ else if 0 < ((WH c (rwS c) c.2.1.length).length:Int) then ⟨#[98,114,101,97,107]⟩ else if 0 < ((Zt c).length:Int) then ⟨#[99,111,110,102,108,105,99,116]⟩ else Vs
section
variable {c:DSg}{as_:List DAr}{a:DAr}{i j k:Nat}{m s q:Int}{l:List Int}{p:List Int}
theorem Qxt (h:Qjb c=true):(⟨#[104,105,100,100,101,110]⟩:ByteArray)=YW c:=by unfold YW; rw[if_pos h]
theorem Qxu (h:Qjb c=false)(d:0 < ((HO c.2.2 c.2.2.length).length:Int)):(⟨#[116,119,111,32,119,97,121,115]⟩:ByteArray)=YW c:=by unfold YW; rw[if_neg (by rw[h]; decide),if_pos d]
theorem Qxv (h:Qjb c=false)(d:¬0 < ((HO c.2.2 c.2.2.length).length:Int))(e:0 < ((WH c (rwS c) c.2.1.length).length:Int)):(⟨#[98,114,101,97,107]⟩:ByteArray)=YW c:=by
 unfold YW; rw[if_neg (by rw[h]; decide),if_neg d,if_pos e]
theorem Qxw (h:Qjb c=false)(d:¬0 < ((HO c.2.2 c.2.2.length).length:Int))(e:¬0 < ((WH c (rwS c) c.2.1.length).length:Int))(o:0 < ((Zt c).length:Int)):(⟨#[99,111,110,102,108,105,99,116]⟩:ByteArray)=YW c:=by
 unfold YW; rw[if_neg (by rw[h]; decide),if_neg d,if_neg e,if_pos o]
theorem Qxx (h:Qjb c=false)(d:¬0 < ((HO c.2.2 c.2.2.length).length:Int))(e:¬0 < ((WH c (rwS c) c.2.1.length).length:Int))(o:¬0 < ((Zt c).length:Int)):Vs=YW c:=by
 unfold YW; rw[if_neg (by rw[h]; decide),if_neg d,if_neg e,if_neg o]
theorem QvF (d:∀a∈c.2.2,InR c.2.1.length a)(h:0 < ((WH c (rwI c) c.2.1.length).length:Int)):0 < ((WH c (rwS c) c.2.1.length).length:Int):=by
 have:=Qko d; rw[aL h] at this; exact ab this.symm
theorem Qr0 (d:∀a∈c.2.2,InR c.2.1.length a)(h:¬0 < ((WH c (rwI c) c.2.1.length).length:Int)):¬0 < ((WH c (rwS c) c.2.1.length).length:Int):=by
 have:=Qko d; rw[aB h] at this; exact aa this.symm
theorem QuE (d:c.2.2[k]? =some a)(h:a.2.1 < 0)(e: -1≤a.2.1):true=Qjb c:=(bY.2 ⟨a,ah d,aL (by omega)⟩).symm
theorem QvX (h:∀j,j < k→∀a,c.2.2[j]? =some a→¬a.2.1 < 0)(t:c.2.2.length≤k):false=Qjb c:=(cB.2 fun a e=>by
 obtain ⟨j,d⟩:=aN.1 e
 have o:=(ai.1 d).1
 have r:=h j (by omega) a d
 simp only[aQ]
 omega).symm
theorem Qn4 {n:Int}{l:Int×Bool}(h:U7 n l): -1≤l.1:=by
 rcases h with h | h <;> omega
theorem Qg0 (d:∀a∈as_, -1≤a.2.1)(e:as_[k]? =some a): -1≤a.2.1:=d a (ah e)
theorem QtJ {β:Type}{B:List β}{f:Nat→Option β}{y:β}{out:List β}(h:0≤m)(e:out=B++rg f m.toNat)(d:f m.toNat=some y):out++[y]=B++rg f (m+1).toNat:=by
 rw[show (m+1).toNat=m.toNat+1 by omega,e]; exact Yp d
theorem QdW {β:Type}{B:List β}{f:Nat→Option β}{out:List β}(h:0≤m)(e:out=B++rg f m.toNat)(d:f m.toNat=none):out=B++rg f (m+1).toNat:=by
 rw[show (m+1).toNat=m.toNat+1 by omega,e,ZI d]
theorem QtG (d:m≤(as_.length:Int))(e:¬m < (as_.length:Int)):HO as_ i++rg (Qeq as_ i) m.toNat=HO as_ (i+1):=by
 rw[show m.toNat=as_.length by omega]; exact Qah
theorem QtH {b:DAr}(d:0≤m)(t:as_[i]? =some a)(u:as_[m.toNat]? =some b)(h:(i:Int) < m)(h0:0≤a.2.1)(e:b.1=a.1)(o:b.2.1=a.2.1)(r:¬b.2.2.2=a.2.2.2):Qeq as_ i m.toNat=some [(i:Int),m]:=by
 rw[QtI t u (by omega) h0 e o r,show ((m.toNat:Nat):Int)=m by omega]
theorem Qif (d:k < c.1.length)(h:Yu c (k:Int)=false):Q6 c.1 k++[(k:Int)]=Q6 c.1 (k+1):=by
 have e:c.1[k]? =some c.1[k]:=ae d
 refine V5 e fun g=> ?_
 rw[← Qbr (c:=c) (sig:=(k:Int)) (x:=c.1[k]) (by omega) (by simp),aL g] at h
 cases h
theorem Qlb (d:k < c.1.length)(h:Yu c (k:Int)=true):Q6 c.1 k=Q6 c.1 (k+1):=by
 have e:c.1[k]? =some c.1[k]:=ae d
 refine HH e ?_
 rw[← Qbr (c:=c) (sig:=(k:Int)) (x:=c.1[k]) (by omega) (by simp)] at h
 exact ab h
theorem QrR {α:Type}{l:List α}{f:α→Bool}{x:α}(d:l[k]? =some x)(h:(l.take k).any f=true):true=(l.take (k+1)).any f:=by rw[QO d,List.any_append,h]; rfl
theorem QrQ {α:Type}{l:List α}{f:α→Bool}{x:α}(d:l[k]? =some x)(h:(l.take k).any f=false):f x=(l.take (k+1)).any f:=by rw[QO d,List.any_append,h]; simp
theorem Qo2 {α:Type}{l:List α}{f:α→Bool}{x:α}(d:l[k]? =some x)(h:f x=true):(l.take k).filter f++[x]=(l.take (k+1)).filter f:=by rw[QO d,aZ]; simp[h]
theorem Qsn {α:Type}{l:List α}{f:α→Bool}{x:α}(d:l[k]? =some x)(h:f x=false):(l.take k).filter f=(l.take (k+1)).filter f:=by rw[QO d,aZ]; simp[h]
def Qqb (c:DSg)(p:List Int):Bool:=QaS c (mAt p 0).toNat (mAt p 1).toNat
theorem QoU (h:p=[(i:Int),(j:Int)]):Qqb c p=QaS c i j:=by subst h; rfl
theorem QbQ {b:Bool}(h:p=[(i:Int),(j:Int)])(e:(Q6 c.1 c.1.length).length≤k)(d:((Q6 c.1 c.1.length).take k).any (fun s=> !(ZT c (i:Int) s==ZT c (j:Int) s))=b):Qqb c p=b:=by
 rw[QT e] at d
 rw[QoU h]; exact d
theorem Qr5:(Z4 c (fun _ _=>true) c.2.1.length).filter (Qqb c)=Zt c:=by
 rw[QdN]
 exact Qfm fun i j _ _=>by rw[QoU rfl]; simp
theorem QuS (h:(Z4 c (fun _ _=>true) c.2.1.length)[k]? =some p):∃i j:Nat,p=[(i:Int),(j:Int)]:=by
 have h:=ah h
 unfold Z4 at h
 obtain ⟨i,o,h⟩:=List.mem_flatMap.1 h
 obtain ⟨j,d,e,rfl⟩:=Qll h
 exact ⟨i,j,rfl⟩
end
theorem Qd8 (c:Zi)(V:c.2.2.length≤4000)(N:∀a∈c.2.2, -1≤a.2.1):FC Tryz.prog 206 [(true,[.dat Ql c.1, .dat Qo c.2.1, .dat Qw c.2.2])] [] 0 (YB 123 Qz (HO c.2.2 c.2.2.length)):=by
 refine Qv Tryz.func206 rfl rfl Tryz.ntmps206 fun Y T X Q Z S R=> ?_
 refine w_ ?_
 refine xbx 0 ?_
 refine w3 ?_
 refine lc (dBs 1 (e:=Qz) WG) ?_
 refine w6 ?_
 refine alL 10 fun _=> ?_
 refine w4 ?_
 refine lp0 c.2.2.length (fun i=>⟨[(1,lP 0 0),(2,lf (.val (.slice none 0 0))),(3,lR 2),(10,lf (.dat Qw c.2.2)),(11,lI (c.2.2.length:Int)),(12,lI (i:Int))],[bx 0 28 [.dat Ql c.1, .dat Qo c.2.1, .dat Qw c.2.2],ar 2 123 Qz (HO c.2.2 i)]⟩) ?_ fun i _=> ?_
 exact wp [(2,1)] ⟨rfl,(Qe (rfl)),trivial⟩
 have K:=QpU (i:=i) V
 refine w4 ?_
 cases F:(decide ((i:Int) < (c.2.2.length:Int)))
 have G:=aa F
 refine w7 ?_
 refine Qd<|fo_ T ?_
 (congr 1; omega)
 have G:=ab F
 refine w6 ?_
 obtain ⟨h,J⟩:=gx c.2.2 i
 have r:=J
 have L:=Qg0 N J
 refine w2 ?_
 refine lc (xal 3 QD QU) ?_
 refine w9 ?_
 refine QP (fun O P=>∃(m:Int) (d:List (List Int)),O=((c.2.2.length:Int) - m).toNat∧((i:Int)+1≤m∧m≤(c.2.2.length:Int))∧(d=HO c.2.2 i++rg (Qeq c.2.2 i) m.toNat)∧P=⟨[(1,lP 0 0),(2,lf (.val (.slice none 0 0))),(3,lR 4),(4,lI (i:Int)),(5,lP 3 0),(6,lI m),(10,lf (.dat Qw c.2.2)),(11,lI (c.2.2.length:Int)),(12,lI (i:Int)),(13,lB true),(14,lI (i:Int)),(15,lf (.elt QD h 0)),(16,ag [dI h.1,dI h.2.1,dB h.2.2.1,dI h.2.2.2]),(17,lI (i:Int)),(18,lI ((i:Int)+1))],[bx 0 28 [.dat Ql c.1, .dat Qo c.2.1, .dat Qw c.2.2],bx 3 154 [dI h.1,dI h.2.1,dB h.2.2.1,dI h.2.2.2],ar 4 123 Qz d]⟩) ⟨(i:Int)+1,HO c.2.2 i,rfl,(by omega),(by rw[show ((i:Int)+1).toNat=i+1 by omega,QiA,bs]),rfl⟩ ?_ ?_
 exact wp [(4,2)] ⟨rfl,rfl,(Qe (by first | rfl | simp)),trivial⟩
 rintro O P ⟨m,d,U,hm,o,rfl⟩
 have W:d.length≤17000000:=by rw[o,aj]; have:=Qbw (f:=Qeq c.2.2 i) (m:=m.toNat); have:=K (by omega); omega
 refine w5 ?_
 refine alL 21 fun _=> ?_
 refine w3 ?_
 cases H:(decide (m < (c.2.2.length:Int)))
 have I:=aa H
 refine w6 ?_
 refine Qb ?_
 refine l0_ ?_
 exact wp [(2,4)] ⟨rfl,(Qe ((by rw[o]; exact QtG (by omega) (by omega)))),trivial⟩
 have I:=ab H
 refine w8 ?_
 obtain ⟨am,z⟩:=gx c.2.2 ((m).toNat)
 have t:=z
 have M:=Qg0 N z
 refine w2 ?_
 refine lc (xal 5 QD QU) ?_
 refine w5 ?_
 refine alI 32 fun _=> ?_
 refine w2 ?_
 cases u:(!decide (h.2.1=(-1)))
 have A:(h.2.1=(-1)):=QK u
 refine w16 ?_
 refine w12 ?_
 refine Qb<|QW ⟨(m+1),d,rfl,(by omega),(by exact QdW (by omega) o (U3 r t (by omega))),rfl⟩ (by omega) ?_
 exact wo []
 have A:¬(h.2.1=(-1)):=QR u
 refine w7 ?_
 cases v:(decide (am.1=h.1))
 have C:=aa v
 refine w16 ?_
 refine w5 ?_
 refine Qb<|QW ⟨(m+1),d,rfl,(by omega),(by exact QdW (by omega) o (U3 r t (by omega))),rfl⟩ (by omega) ?_
 exact wo []
 have C:=ab v
 refine w7 ?_
 cases w:(decide (am.2.1=h.2.1))
 have D:=aa w
 refine w14 ?_
 refine Qb<|QW ⟨(m+1),d,rfl,(by omega),(by exact QdW (by omega) o (U3 r t (by omega))),rfl⟩ (by omega) ?_
 exact wo []
 have D:=ab w
 refine w7 ?_
 cases x:(!decide (am.2.2.2=h.2.2.2))
 have E:(am.2.2.2=h.2.2.2):=QK x
 refine w7 ?_
 refine Qb<|QW ⟨(m+1),d,rfl,(by omega),(by exact QdW (by omega) o (U3 r t (by omega))),rfl⟩ (by omega) ?_
 exact wo []
 have E:¬(am.2.2.2=h.2.2.2):=QR x
 refine w5 ?_
 refine lc (dBs 6 (e:= .int) Yk) ?_
 refine lc (dBs 7 (e:=Qz) WG (hab:=by exact ⟨_,_,_,_,rfl,(.inl ⟨_,rfl,rfl,rfl⟩),⟨rfl,rfl⟩,rfl⟩)) ?_
 refine lc (dA 8 H5) ?_
 refine w_ ?_
 refine Qb ?_
 refine w5 ?_
 refine Qb<|QW ⟨(m+1),(d++([[(i:Int),m]])),rfl,(by omega),(by exact QtJ (by omega) o (QtH (by omega) r t (by omega) (by omega) (by omega) (by omega) (by omega))),rfl⟩ (by omega) ?_
 exact wp [(4,8)] ⟨rfl,rfl,(Qe (by first | rfl | simp)),trivial⟩
theorem Qgd (c:Zi)(V:c.2.2.length≤4000)(N:∀a∈c.2.2, -1≤a.2.1):FC Tryz.prog 220 [(true,[.dat Ql c.1, .dat Qo c.2.1, .dat Qw c.2.2])] [] 0 (YB 123 Qz (HO c.2.2 c.2.2.length)):=by
 refine Qv Tryz.func220 rfl rfl Tryz.ntmps220 fun Y T X Q Z S R=> ?_
 refine w_ ?_
 refine xbx 0 ?_
 refine w9 ?_
 refine alL 9 fun _=> ?_
 refine w4 ?_
 refine AC.wk (Wk.nilS 1 3 123 Qz rfl (Fresh.of rfl) (nlr rfl)) ?_
 refine lp0 c.2.2.length (fun i=>⟨[(1,lP 0 0),(2,lf (.val (.slice none 0 0))),(3,lR 2),(9,lf (.dat Qw c.2.2)),(10,lI (c.2.2.length:Int)),(11,lI (i:Int))],[bx 0 28 [.dat Ql c.1, .dat Qo c.2.1, .dat Qw c.2.2],ar 2 123 Qz (HO c.2.2 i)]⟩) ?_ fun i _=> ?_
 exact wp [(2,1)] ⟨rfl,(Qe (rfl)),trivial⟩
 have K:=QpU (i:=i) V
 refine w4 ?_
 cases F:(decide ((i:Int) < (c.2.2.length:Int)))
 have G:=aa F
 refine w7 ?_
 refine Qd<|fo_ T ?_
 (congr 1; omega)
 have G:=ab F
 refine w6 ?_
 obtain ⟨h,J⟩:=gx c.2.2 i
 have r:=J
 have L:=Qg0 N J
 refine w2 ?_
 refine lc (xal 3 QD QU) ?_
 refine w9 ?_
 refine QP (fun O P=>∃(m:Int) (d:List (List Int)),O=((c.2.2.length:Int) - m).toNat∧((i:Int)+1≤m∧m≤(c.2.2.length:Int))∧(d=HO c.2.2 i++rg (Qeq c.2.2 i) m.toNat)∧P=⟨[(1,lP 0 0),(2,lf (.val (.slice none 0 0))),(3,lR 4),(4,lI (i:Int)),(5,lP 3 0),(6,lI m),(9,lf (.dat Qw c.2.2)),(10,lI (c.2.2.length:Int)),(11,lI (i:Int)),(12,lB true),(13,lI (i:Int)),(14,lf (.elt QD h 0)),(15,ag [dI h.1,dI h.2.1,dB h.2.2.1,dI h.2.2.2]),(16,lI (i:Int)),(17,lI ((i:Int)+1))],[bx 0 28 [.dat Ql c.1, .dat Qo c.2.1, .dat Qw c.2.2],bx 3 154 [dI h.1,dI h.2.1,dB h.2.2.1,dI h.2.2.2],ar 4 123 Qz d]⟩) ⟨(i:Int)+1,HO c.2.2 i,rfl,(by omega),(by rw[show ((i:Int)+1).toNat=i+1 by omega,QiA,bs]),rfl⟩ ?_ ?_
 exact wp [(4,2)] ⟨rfl,rfl,(Qe (by first | rfl | simp)),trivial⟩
 rintro O P ⟨m,d,U,hm,o,rfl⟩
 have W:d.length≤17000000:=by rw[o,aj]; have:=Qbw (f:=Qeq c.2.2 i) (m:=m.toNat); have:=K (by omega); omega
 refine w5 ?_
 refine alL 20 fun _=> ?_
 refine w3 ?_
 cases H:(decide (m < (c.2.2.length:Int)))
 have I:=aa H
 refine w6 ?_
 refine Qb ?_
 refine l0_ ?_
 exact wp [(2,4)] ⟨rfl,(Qe ((by rw[o]; exact QtG (by omega) (by omega)))),trivial⟩
 have I:=ab H
 refine w8 ?_
 obtain ⟨am,z⟩:=gx c.2.2 ((m).toNat)
 have t:=z
 have M:=Qg0 N z
 refine w2 ?_
 refine lc (xal 5 QD QU) ?_
 refine w5 ?_
 refine alI 31 fun _=> ?_
 refine w2 ?_
 refine alI 33 fun _=> ?_
 refine w2 ?_
 cases u:(decide (h.1=am.1))
 have A:=aa u
 refine w16 ?_
 refine w10 ?_
 refine Qb<|QW ⟨(m+1),d,rfl,(by omega),(by exact QdW (by omega) o (U3 r t (by omega))),rfl⟩ (by omega) ?_
 exact wo []
 have A:=ab u
 refine w7 ?_
 cases v:(decide (h.2.1=am.2.1))
 have C:=aa v
 refine w16 ?_
 refine w3 ?_
 refine Qb<|QW ⟨(m+1),d,rfl,(by omega),(by exact QdW (by omega) o (U3 r t (by omega))),rfl⟩ (by omega) ?_
 exact wo []
 have C:=ab v
 refine w5 ?_
 cases w:(decide (0≤h.2.1))
 have D:=aa w
 refine w14 ?_
 refine Qb<|QW ⟨(m+1),d,rfl,(by omega),(by exact QdW (by omega) o (U3 r t (by omega))),rfl⟩ (by omega) ?_
 exact wo []
 have D:=ab w
 refine w7 ?_
 cases x:(!decide (h.2.2.2=am.2.2.2))
 have E:(h.2.2.2=am.2.2.2):=QK x
 refine w7 ?_
 refine Qb<|QW ⟨(m+1),d,rfl,(by omega),(by exact QdW (by omega) o (U3 r t (by omega))),rfl⟩ (by omega) ?_
 exact wo []
 have E:¬(h.2.2.2=am.2.2.2):=QR x
 refine w5 ?_
 refine lc (dBs 6 (e:= .int) Yk) ?_
 refine lc (dBs 7 (e:=Qz) WG (hab:=by exact ⟨_,_,_,_,rfl,(.inl ⟨_,rfl,rfl,rfl⟩),⟨rfl,rfl⟩,rfl⟩)) ?_
 refine lc (dA 8 H5) ?_
 refine w_ ?_
 refine Qb ?_
 refine w5 ?_
 refine Qb<|QW ⟨(m+1),(d++([[(i:Int),m]])),rfl,(by omega),(by exact QtJ (by omega) o (QtH (by omega) r t (by omega) (by omega) (by omega) (by omega) (by omega))),rfl⟩ (by omega) ?_
 exact wp [(4,8)] ⟨rfl,rfl,(Qe (by first | rfl | simp)),trivial⟩
theorem Qbk (c:Zi)(N:SgW c):FC Tryz.prog 292 [(true,[.dat Ql c.1, .dat Qo c.2.1, .dat Qw c.2.2])] [] 0 (YB 382 Zn (WH c (rwI c) c.2.1.length)):=by
 have t:∀a∈c.2.2,InR c.2.1.length a:=fun a Y=>(N.arcs a Y).1
 have b9:=N.some_
 have b6:=N.few
 have h8:=N.sig8
 have U:=Qad (n:=c.2.1.length) (as_:=c.2.2)
 have b8:=HE (n:=c.2.1.length) (as_:=c.2.2)
 have c0:=Xa (n:=c.2.1.length) (es:=ixE c.2.2)
 have a2:∀k s,k < c.2.1.length→(rwI c k s).length≤c.2.2.length:=fun k s hk=>QuZ hk
 refine Qv Tryz.func292 rfl rfl Tryz.ntmps292 fun O_ hO c1 a8 X_ b0 a9=> ?_
 refine w_ ?_
 refine xbx 0 ?_
 refine w2 ?_
 apply dW (⟨some 11,lR 1,[(1,some (.arr 382 Zn ([])))]⟩ :: io 12 (ag [.dat Ql c.1, .dat Qo c.2.1, .dat Qw c.2.2]) :: io 13 (lf (.dat Qz (YT c.2.1.length c.2.2))) :: io 14 (ag [.dat Ql c.1, .dat Qo c.2.1, .dat Qw c.2.2]) :: io 15 (lf (.dat Vz (Q9 c.2.1.length (ixE c.2.2)))) :: i3 3 _ _ _ []) [0,1,1,7,1,0,0,0]
 refine zz (fun _ h_=>ac (dBs 1 (e:=Zn) Qam) rfl) ?_
 refine z_ ?_
 refine zz (fun _ h_=>ac (dK (X7 c N).frozen Qa2) rfl) ?_
 refine z_ ?_
 refine zz (fun _ h_=>ac (dK (Kz c t (by omega)).frozen QfN) rfl) ?_
 exact y3
 refine w4 ?_
 refine alL 17 fun _=> ?_
 refine w4 ?_
 refine lp0 c.2.1.length (fun k=>⟨[(1,lP 0 0),(2,lf (.val (.slice none 0 0))),(3,lR 2),(4,lf (.dat Qz (YT c.2.1.length c.2.2))),(5,lf (.dat Vz (Q9 c.2.1.length (ixE c.2.2)))),(18,lI (c.2.1.length:Int)),(19,lI (k:Int))],[bx 0 28 [.dat Ql c.1, .dat Qo c.2.1, .dat Qw c.2.2],(2,some (.arr 382 Zn (WH c (rwI c) k)))]⟩) ?_ fun k _=> ?_
 exact wp [(2,1)] ⟨rfl,(Qe (rfl)),trivial⟩
 have Z:=fun j hj=>QoM (n:=k) (k:=k) (j:=j) N (by omega) hj a2
 refine w4 ?_
 cases P:(decide ((k:Int) < (c.2.1.length:Int)))
 have Q:=aa P
 refine w7 ?_
 refine Qd<|fo_ hO ?_
 (congr 1; omega)
 have Q:=ab P
 refine w11 ?_
 refine alL 23 fun _=> ?_
 refine w4 ?_
 refine lp0 c.1.length (fun j=>⟨[(1,lP 0 0),(2,lf (.val (.slice none 0 0))),(3,lR 3),(4,lf (.dat Qz (YT c.2.1.length c.2.2))),(5,lf (.dat Vz (Q9 c.2.1.length (ixE c.2.2)))),(6,lI (k:Int)),(18,lI (c.2.1.length:Int)),(19,lI (k:Int)),(20,lB true),(21,lI (k:Int)),(22,lP 0 0),(23,lf (.dat Ql c.1)),(24,lI (c.1.length:Int)),(25,lI (j:Int))],[bx 0 28 [.dat Ql c.1, .dat Qo c.2.1, .dat Qw c.2.2],(3,some (.arr 382 Zn (WH c (rwI c) k++Vm c (rwI c) k j)))]⟩) ?_ fun j _=> ?_
 exact wp [(3,2)] ⟨rfl,(Qe (by simp[Vm,rf])),trivial⟩
 have a0:=Z j (by omega)
 refine w4 ?_
 cases R:(decide ((j:Int) < (c.1.length:Int)))
 have S:=aa R
 refine w6 ?_
 refine Qb ?_
 refine l0_ ?_
 exact wp [(2,3)] ⟨rfl,(Qe (QhG (by omega) (by omega))),trivial⟩
 have S:=ab R
 refine w12 ?_
 obtain ⟨x,W⟩:=gx (YT c.2.1.length c.2.2) k
 have X:=W
 have u:=U _ (ah W)
 refine w2 ?_
 refine alI 31 fun _=> ?_
 refine w_ ?_
 refine lc (Wu (Qy rfl) (Qa rfl) rfl (by omega))<|lc (Ha (Qa rfl) (Qa rfl) rfl (by omega) (by first | exact u | exact v | exact bB u (bz (by decide)) | exact bB v (bz (by decide)) | omega | exact bC _))<|lc (J5 (Qa rfl) (Qy rfl) rfl (by first | exact u | exact v | exact bB u (bz (by decide)) | exact bB v (bz (by decide)) | omega | exact bC _) (by omega)) ?_
 refine w2 ?_
 cases D:(decide ((((x / 2 ^ (2*(j:Int)).toNat).toNat &&& (3:Int).toNat:Nat):Int)=0))
 have J:=aa D
 refine w5 ?_
 obtain ⟨C,z⟩:=gx (Q9 c.2.1.length (ixE c.2.2)) k
 have V:=z
 have a3:=KU z
 rw[Qcl] at a3
 have a4:∀x,x∈C↔_:=fun x=>Qae (x:=x) (fun a Y=>(t a Y).1.1) z
 refine w2 ?_
 refine alL 40 fun _=> ?_
 refine w4 ?_
 refine lp0 C.length (fun i=>⟨[(1,lP 0 0),(2,lf (.val (.slice none 0 0))),(3,lR 4),(4,lf (.dat Qz (YT c.2.1.length c.2.2))),(5,lf (.dat Vz (Q9 c.2.1.length (ixE c.2.2)))),(6,lI (k:Int)),(7,lI (j:Int)),(18,lI (c.2.1.length:Int)),(19,lI (k:Int)),(20,lB true),(21,lI (k:Int)),(22,lP 0 0),(23,lf (.dat Ql c.1)),(24,lI (c.1.length:Int)),(25,lI (j:Int)),(26,lB true),(27,lI (j:Int)),(28,lf (.dat Qz (YT c.2.1.length c.2.2))),(29,lI (k:Int)),(30,lf (.elt .int x 0)),(31,lI x),(32,lI (j:Int)),(33,lI (2*(j:Int))),(34,lI (x / 2 ^ (2*(j:Int)).toNat)),(35,lI (((x / 2 ^ (2*(j:Int)).toNat).toNat &&& (3:Int).toNat:Nat):Int)),(36,lB false),(37,lf (.dat Vz (Q9 c.2.1.length (ixE c.2.2)))),(38,lI (k:Int)),(39,lf (.elt Qz C 0)),(40,lf (.dat Qz C)),(41,lI (C.length:Int)),(42,lI (i:Int))],[bx 0 28 [.dat Ql c.1, .dat Qo c.2.1, .dat Qw c.2.2],(4,some (.arr 382 Zn (WH c (rwI c) k++Vm c (rwI c) k j++rg (QiP c C k j) i)))]⟩) ?_ fun i _=> ?_
 exact wp [(4,3)] ⟨rfl,(Qe (by simp[rg])),trivial⟩
 have b4:=Qbw (f:=QiP c C k j) (m:=i)
 have b5:=a0.2 (by omega)
 refine w4 ?_
 cases E:(decide ((i:Int) < (C.length:Int)))
 have K:=aa E
 refine w6 ?_
 refine Qb ?_
 refine l0_ ?_
 exact wp [(3,4)] ⟨rfl,(Qe (by first | exact Qey (JQ t ⟨by omega,by omega⟩ (by omega) X ‹_›) | exact QhH (QgC t ⟨by omega,by omega⟩ (by omega) X ‹_›) V (by omega) (by omega))),trivial⟩
 have K:=ab E
 refine w5 ?_
 obtain ⟨q,H⟩:=gx C i
 obtain ⟨jq,aq,a1,b3,hq⟩:=(a4 _).1 (ah H)
 have b7:=(ai.1 a1).1
 have h:=H
 refine w2 ?_
 refine alI 45 fun _=> ?_
 refine w6 ?_
 obtain ⟨ar,A⟩:=gx c.2.2 ((q).toNat)
 have O:=t _ (ah A)
 obtain ⟨⟨b1,b2⟩,o,r⟩:=O
 have T:=(N.arcs _ (ah A)).2
 have a7:ar.2.1 < (c.1.length:Int):=Vf T
 have d:=A
 refine w2 ?_
 refine lc (xal 5 QD QU) ?_
 refine w5 ?_
 refine alI 52 fun _=> ?_
 refine w3 ?_
 cases F:(!decide (ar.2.1=(j:Int)))
 have L:(ar.2.1=(j:Int)):=QK F
 refine w16 ?_
 refine Qf rfl rfl rfl ?_ rfl
 refine Qf rfl rfl rfl ?_ rfl
 refine Qf rfl rfl rfl ?_ rfl
 refine Qf rfl rfl rfl ?_ rfl
 refine w10 ?_
 refine Qb ?_
 refine l0_ ?_
 exact wp [] ⟨rfl,(Qe (by first | exact Yp (Xp h d (Ug ‹_› (JQ t ⟨o,r⟩ (by omega) w ‹_›) ‹_›)) | exact Yp (Xp h d (Uh ‹_› (JQ t ⟨o,r⟩ (by omega) w ‹_›) ‹_›)) | exact congrArg _ (ZI (YM h d (Ud ‹_›))) | exact congrArg _ (ZI (YM h d (Uf ‹_› ‹_›))) | exact congrArg _ (ZI (YM h d (Ue (QgC t ⟨o,r⟩ (by omega) w ‹_›)))))),trivial⟩
 have L:¬(ar.2.1=(j:Int)):=QR F
 refine w3 ?_
 obtain ⟨y,I⟩:=gx (YT c.2.1.length c.2.2) ((ar.2.2.2).toNat)
 have w:=I
 have v:=U _ (ah I)
 refine w3 ?_
 refine lgy rfl rfl (Wu (Qy rfl) (Qa rfl) rfl (by omega))<|lgy rfl rfl (Ha (Qa rfl) (Qa rfl) rfl (by omega) (by first | exact u | exact v | exact bB u (bz (by decide)) | exact bB v (bz (by decide)) | omega | exact bC _))<|lgy rfl rfl (J5 (Qa rfl) (Qy rfl) rfl (by first | exact u | exact v | exact bB u (bz (by decide)) | exact bB v (bz (by decide)) | omega | exact bC _) (by omega)) ?_
 refine w3 ?_
 cases G:(decide ((((y / 2 ^ (2*(j:Int)).toNat).toNat &&& (3:Int).toNat:Nat):Int)=0))
 have M:=aa G
 refine w4 ?_
 refine Qf rfl rfl rfl ?_ rfl
 refine Qf rfl rfl rfl ?_ rfl
 refine Qf rfl rfl rfl ?_ rfl
 refine Qf rfl rfl rfl ?_ rfl
 refine w10 ?_
 refine Qb ?_
 refine l0_ ?_
 exact wp [] ⟨rfl,(Qe (by first | exact Yp (Xp h d (Ug ‹_› (JQ t ⟨o,r⟩ (by omega) w ‹_›) ‹_›)) | exact Yp (Xp h d (Uh ‹_› (JQ t ⟨o,r⟩ (by omega) w ‹_›) ‹_›)) | exact congrArg _ (ZI (YM h d (Ud ‹_›))) | exact congrArg _ (ZI (YM h d (Uf ‹_› ‹_›))) | exact congrArg _ (ZI (YM h d (Ue (QgC t ⟨o,r⟩ (by omega) w ‹_›)))))),trivial⟩
 have M:=ab G
 refine w2 ?_
 refine lgy rfl rfl (dK (Yx c (j:Int) (by omega)) WV) ?_
 refine w_ ?_
 cases a5:(Yu c (j:Int))
 refine w14 ?_
 refine lc (Qi Qex ⟨_,_,rfl,(Qk rfl),⟨_,_,rfl,(Qk rfl),⟨_,_,rfl,(Qk rfl),rfl⟩⟩⟩ (ak.1 rfl) rfl rfl) ?_
 refine lc (dBs 6 (e:=Zn) Qam (hab:=by exact ⟨_,_,_,_,rfl,⟨[dI (k:Int)],[dI (j:Int),dI q],_,_,_,_,rfl,rfl,⟨rfl,rfl⟩,⟨[dI (j:Int)],[dI q],_,_,_,_,rfl,rfl,⟨rfl,rfl⟩,⟨rfl,rfl⟩,rfl⟩,rfl⟩,⟨rfl,rfl⟩,rfl⟩)) ?_
 refine lc (dA 7 QeB) ?_
 refine w_ ?_
 refine Qb ?_
 refine w4 ?_
 refine Qb ?_
 refine l0_ ?_
 exact wp [(4,7)] ⟨rfl,(Qe (by first | exact Yp (Xp h d (Ug ‹_› (JQ t ⟨o,r⟩ (by omega) w ‹_›) ‹_›)) | exact Yp (Xp h d (Uh ‹_› (JQ t ⟨o,r⟩ (by omega) w ‹_›) ‹_›)) | exact congrArg _ (ZI (YM h d (Ud ‹_›))) | exact congrArg _ (ZI (YM h d (Uf ‹_› ‹_›))) | exact congrArg _ (ZI (YM h d (Ue (QgC t ⟨o,r⟩ (by omega) w ‹_›)))))),trivial⟩
 refine w3 ?_
 refine lgy rfl rfl (dK (Yx c ar.2.1 (by omega)) WV) ?_
 refine w4 ?_
 cases a6:(Yu c ar.2.1)
 refine w6 ?_
 refine lc (Qi Qex ⟨_,_,rfl,(Qk rfl),⟨_,_,rfl,(Qk rfl),⟨_,_,rfl,(Qk rfl),rfl⟩⟩⟩ (ak.1 rfl) rfl rfl) ?_
 refine lc (dBs 8 (e:=Zn) Qam (hab:=by exact ⟨_,_,_,_,rfl,⟨[dI (k:Int)],[dI (j:Int),dI q],_,_,_,_,rfl,rfl,⟨rfl,rfl⟩,⟨[dI (j:Int)],[dI q],_,_,_,_,rfl,rfl,⟨rfl,rfl⟩,⟨rfl,rfl⟩,rfl⟩,rfl⟩,⟨rfl,rfl⟩,rfl⟩)) ?_
 refine lc (dA 9 QeB) ?_
 refine w_ ?_
 refine Qb ?_
 refine w4 ?_
 refine Qb ?_
 refine l0_ ?_
 exact wp [(4,9)] ⟨rfl,(Qe (by first | exact Yp (Xp h d (Ug ‹_› (JQ t ⟨o,r⟩ (by omega) w ‹_›) ‹_›)) | exact Yp (Xp h d (Uh ‹_› (JQ t ⟨o,r⟩ (by omega) w ‹_›) ‹_›)) | exact congrArg _ (ZI (YM h d (Ud ‹_›))) | exact congrArg _ (ZI (YM h d (Uf ‹_› ‹_›))) | exact congrArg _ (ZI (YM h d (Ue (QgC t ⟨o,r⟩ (by omega) w ‹_›)))))),trivial⟩
 refine w6 ?_
 refine Qb ?_
 refine l0_ ?_
 exact wp [] ⟨rfl,(Qe (by first | exact Yp (Xp h d (Ug ‹_› (JQ t ⟨o,r⟩ (by omega) w ‹_›) ‹_›)) | exact Yp (Xp h d (Uh ‹_› (JQ t ⟨o,r⟩ (by omega) w ‹_›) ‹_›)) | exact congrArg _ (ZI (YM h d (Ud ‹_›))) | exact congrArg _ (ZI (YM h d (Uf ‹_› ‹_›))) | exact congrArg _ (ZI (YM h d (Ue (QgC t ⟨o,r⟩ (by omega) w ‹_›)))))),trivial⟩
 have J:=ab D
 refine w6 ?_
 refine Qb ?_
 refine l0_ ?_
 exact wp [] ⟨rfl,(Qe (by first | exact Qey (JQ t ⟨by omega,by omega⟩ (by omega) X ‹_›) | exact QhH (QgC t ⟨by omega,by omega⟩ (by omega) X ‹_›) V (by omega) (by omega))),trivial⟩
theorem Kg (c:Zi)(sig:Int)(z:sig < (c.1.length:Int)):FC Tryz.prog 223 [(true,[.dat Ql c.1, .dat Qo c.2.1, .dat Qw c.2.2]),(false,[dI sig])] [] 0 (QY (lB (!Yu c sig))):=by
 refine Qv Tryz.func223 rfl rfl Tryz.ntmps223 fun w o v r x u t=> ?_
 refine acI 1 fun _=> ?_
 refine w_ ?_
 refine xbx 0 ?_
 refine w6 ?_
 cases d:(decide (sig < 0))
 have e:=aa d
 refine w3 ?_
 obtain ⟨A,h⟩:=gx c.1 ((sig).toNat)
 refine w7 ?_
 refine Qd<|fqB o ?_
 ·(rw[← Qbr (by omega) h]; done)
 have e:=ab d
 refine w10 ?_
 refine Qd<|fqB o ?_
 (rw[← QeH (by omega)]; rfl)
theorem Qem (c:Zi)(C:c.1.length≤100000):FC Tryz.prog 83 [(true,[.dat Ql c.1, .dat Qo c.2.1, .dat Qw c.2.2])] [] 0 (YB 3 .int (Q6 c.1 c.1.length)):=by
 refine Qv Tryz.func83 rfl rfl Tryz.ntmps83 fun z u x o A t r=> ?_
 refine w_ ?_
 refine xbx 0 ?_
 refine w9 ?_
 refine alL 6 fun _=> ?_
 refine w4 ?_
 refine AC.wk (Wk.nilS 1 3 3 .int rfl (Fresh.of rfl) (nlr rfl)) ?_
 refine lp0 c.1.length (fun k=>⟨[(1,lP 0 0),(2,lf (.val (.slice none 0 0))),(3,lR 2),(7,lI (c.1.length:Int)),(8,lI (k:Int))],[bx 0 28 [.dat Ql c.1, .dat Qo c.2.1, .dat Qw c.2.2],ar 2 3 .int (Q6 c.1 k)]⟩) ?_ fun k _=> ?_
 exact wp [(2,1)] ⟨rfl,(Qe (rfl)),trivial⟩
 have w:=KY (ss:=c.1) (k:=k)
 refine w4 ?_
 cases d:(decide ((k:Int) < (c.1.length:Int)))
 have h:=aa d
 refine w7 ?_
 refine Qd<|fo_ u ?_
 (congr 1; omega)
 have h:=ab d
 refine w11 ?_
 refine lc (dK (Kg c (k:Int) (by omega)) QaX) ?_
 refine w_ ?_
 cases v:(Yu c (k:Int))
 refine w4 ?_
 refine lc (dBs 3 (e:= .int) Yk) ?_
 refine lc (dA 4 XP) ?_
 refine w_ ?_
 refine Qb ?_
 refine w4 ?_
 refine Qb ?_
 refine l0_ ?_
 exact wp [(2,4)] ⟨rfl,(Qe (by first | exact Qif (by omega) ‹_› | exact Qlb (by omega) ‹_›)),trivial⟩
 refine w6 ?_
 refine Qb ?_
 refine l0_ ?_
 exact wp [] ⟨rfl,(Qe (by first | exact Qif (by omega) ‹_› | exact Qlb (by omega) ‹_›)),trivial⟩
theorem Qdh (c:Zi)(x:SgW c):FC Tryz.prog 221 [(true,[.dat Ql c.1, .dat Qo c.2.1, .dat Qw c.2.2])] [] 0 (YB 382 Zn (WH c (rwS c) c.2.1.length)):=by
 have hr:∀a∈c.2.2,InR c.2.1.length a:=fun a R=>(x.arcs a R).1
 have a0:=x.some_
 have Z:=x.few
 have h8:=x.sig8
 have I:∀k s,k < c.2.1.length→(rwS c k s).length≤c.2.2.length:=fun k s hk=>Qu0
 refine Qv Tryz.func221 rfl rfl Tryz.ntmps221 fun O_ Q a1 N X_ P O=> ?_
 refine w_ ?_
 refine xbx 0 ?_
 refine w9 ?_
 refine alL 9 fun _=> ?_
 refine w4 ?_
 refine AC.wk (Wk.nilS 1 3 382 Zn rfl (Fresh.of rfl) (nlr rfl)) ?_
 refine lp0 c.2.1.length (fun k=>⟨[(1,lP 0 0),(2,lf (.val (.slice none 0 0))),(3,lR 2),(10,lI (c.2.1.length:Int)),(11,lI (k:Int))],[bx 0 28 [.dat Ql c.1, .dat Qo c.2.1, .dat Qw c.2.2],(2,some (.arr 382 Zn (WH c (rwS c) k)))]⟩) ?_ fun k _=> ?_
 exact wp [(2,1)] ⟨rfl,(Qe (rfl)),trivial⟩
 have G:=fun j hj=>QoM (n:=k) (k:=k) (j:=j) x (by omega) hj I
 refine w4 ?_
 cases A:(decide ((k:Int) < (c.2.1.length:Int)))
 have C:=aa A
 refine w7 ?_
 refine Qd<|fo_ Q ?_
 (congr 1; omega)
 have C:=ab A
 refine w11 ?_
 refine alL 15 fun _=> ?_
 refine w4 ?_
 refine lp0 c.1.length (fun j=>⟨[(1,lP 0 0),(2,lf (.val (.slice none 0 0))),(3,lR 3),(4,lI (k:Int)),(10,lI (c.2.1.length:Int)),(11,lI (k:Int)),(12,lB true),(13,lI (k:Int)),(14,lP 0 0),(15,lf (.dat Ql c.1)),(16,lI (c.1.length:Int)),(17,lI (j:Int))],[bx 0 28 [.dat Ql c.1, .dat Qo c.2.1, .dat Qw c.2.2],(3,some (.arr 382 Zn (WH c (rwS c) k++Vm c (rwS c) k j)))]⟩) ?_ fun j _=> ?_
 exact wp [(3,2)] ⟨rfl,(Qe (by simp[Vm,rf])),trivial⟩
 have H:=G j (by omega)
 refine w4 ?_
 cases D:(decide ((j:Int) < (c.1.length:Int)))
 have E:=aa D
 refine w6 ?_
 refine Qb ?_
 refine l0_ ?_
 exact wp [(2,3)] ⟨rfl,(Qe (QhG (by omega) (by omega))),trivial⟩
 have E:=ab D
 refine w13 ?_
 refine lc (dK (YC c (k:Int) (j:Int)) Um) ?_
 refine w2 ?_
 cases W:(ZT c (k:Int) (j:Int))
 refine w6 ?_
 refine Qb ?_
 refine l0_ ?_
 exact wp [] ⟨rfl,(Qe (by first | exact Qey ‹_› | exact QhI ‹_› (by omega) (by omega))),trivial⟩
 refine w5 ?_
 refine alL 26 fun _=> ?_
 refine w4 ?_
 refine lp0 c.2.2.length (fun i=>⟨[(1,lP 0 0),(2,lf (.val (.slice none 0 0))),(3,lR 4),(4,lI (k:Int)),(5,lI (j:Int)),(10,lI (c.2.1.length:Int)),(11,lI (k:Int)),(12,lB true),(13,lI (k:Int)),(14,lP 0 0),(15,lf (.dat Ql c.1)),(16,lI (c.1.length:Int)),(17,lI (j:Int)),(18,lB true),(19,lI (j:Int)),(20,ag [.dat Ql c.1, .dat Qo c.2.1, .dat Qw c.2.2]),(21,lI (k:Int)),(22,lI (j:Int)),(23,lB true),(24,lB (!true)),(25,lP 0 2),(26,lf (.dat Qw c.2.2)),(27,lI (c.2.2.length:Int)),(28,lI (i:Int))],[bx 0 28 [.dat Ql c.1, .dat Qo c.2.1, .dat Qw c.2.2],(4,some (.arr 382 Zn (WH c (rwS c) k++Vm c (rwS c) k j++rg (Qkl c k j) i)))]⟩) ?_ fun i _=> ?_
 exact wp [(4,3)] ⟨rfl,(Qe (by simp[rg])),trivial⟩
 have X:=Qbw (f:=Qkl c k j) (m:=i)
 have Y:=H.2 (by omega)
 refine w4 ?_
 cases o:(decide ((i:Int) < (c.2.2.length:Int)))
 have u:=aa o
 refine w6 ?_
 refine Qb ?_
 refine l0_ ?_
 exact wp [(3,4)] ⟨rfl,(Qe (by first | exact Qey ‹_› | exact QhI ‹_› (by omega) (by omega))),trivial⟩
 have u:=ab o
 refine w6 ?_
 obtain ⟨ar,h⟩:=gx c.2.2 i
 have z:=hr _ (ah h)
 obtain ⟨⟨S,T⟩,U,V⟩:=z
 have F:=(x.arcs _ (ah h)).2
 have M:ar.2.1 < (c.1.length:Int):=Vf F
 have d:=h
 refine w2 ?_
 refine lc (xal 5 QD QU) ?_
 refine w6 ?_
 refine alI 34 fun _=> ?_
 refine w3 ?_
 cases r:(decide (ar.1=(k:Int)))
 have v:=aa r
 refine w16 ?_
 refine w2 ?_
 refine Qf rfl rfl rfl ?_ rfl
 refine Qf rfl rfl rfl ?_ rfl
 refine Qf rfl rfl rfl ?_ rfl
 refine Qf rfl rfl rfl ?_ rfl
 refine w9 ?_
 refine Qb ?_
 refine l0_ ?_
 exact wp [] ⟨rfl,(Qe (by first | exact Yp (YP d ‹_› (Ug ‹_› ‹_› ‹_›)) | exact Yp (YP d ‹_› (Uh ‹_› ‹_› ‹_›)) | exact congrArg _ (ZI (Zs d fun g=>absurd g.1 ‹_›)) | exact congrArg _ (ZI (Zs d fun g=>absurd ((Ud ‹_›).symm.trans g.2) (by decide))) | exact congrArg _ (ZI (Zs d fun g=>absurd ((Ue ‹_›).symm.trans g.2) (by decide))) | exact congrArg _ (ZI (Zs d fun g=>absurd ((Uf ‹_› ‹_›).symm.trans g.2) (by decide))))),trivial⟩
 have v:=ab r
 refine w6 ?_
 cases t:(!decide (ar.2.1=(j:Int)))
 have w:(ar.2.1=(j:Int)):=QK t
 refine w12 ?_
 refine Qf rfl rfl rfl ?_ rfl
 refine Qf rfl rfl rfl ?_ rfl
 refine Qf rfl rfl rfl ?_ rfl
 refine Qf rfl rfl rfl ?_ rfl
 refine w9 ?_
 refine Qb ?_
 refine l0_ ?_
 exact wp [] ⟨rfl,(Qe (by first | exact Yp (YP d ‹_› (Ug ‹_› ‹_› ‹_›)) | exact Yp (YP d ‹_› (Uh ‹_› ‹_› ‹_›)) | exact congrArg _ (ZI (Zs d fun g=>absurd g.1 ‹_›)) | exact congrArg _ (ZI (Zs d fun g=>absurd ((Ud ‹_›).symm.trans g.2) (by decide))) | exact congrArg _ (ZI (Zs d fun g=>absurd ((Ue ‹_›).symm.trans g.2) (by decide))) | exact congrArg _ (ZI (Zs d fun g=>absurd ((Uf ‹_› ‹_›).symm.trans g.2) (by decide))))),trivial⟩
 have w:¬(ar.2.1=(j:Int)):=QR t
 refine w4 ?_
 refine lgy rfl rfl (dK (YC c ar.2.2.2 (j:Int)) Um) ?_
 refine w3 ?_
 cases J:(ZT c ar.2.2.2 (j:Int))
 refine w2 ?_
 refine lgy rfl rfl (dK (Kg c (j:Int) (by omega)) QaX) ?_
 refine w_ ?_
 cases K:(Yu c (j:Int))
 refine w13 ?_
 refine lc (Qi Qex ⟨_,_,rfl,(Qk rfl),⟨_,_,rfl,(Qk rfl),⟨_,_,rfl,(Qk rfl),rfl⟩⟩⟩ (ak.1 rfl) rfl rfl) ?_
 refine lc (dBs 6 (e:=Zn) Qam (hab:=by exact ⟨_,_,_,_,rfl,⟨[dI (k:Int)],[dI (j:Int),dI (i:Int)],_,_,_,_,rfl,rfl,⟨rfl,rfl⟩,⟨[dI (j:Int)],[dI (i:Int)],_,_,_,_,rfl,rfl,⟨rfl,rfl⟩,⟨rfl,rfl⟩,rfl⟩,rfl⟩,⟨rfl,rfl⟩,rfl⟩)) ?_
 refine lc (dA 7 QeB) ?_
 refine w_ ?_
 refine Qb ?_
 refine w4 ?_
 refine Qb ?_
 refine l0_ ?_
 exact wp [(4,7)] ⟨rfl,(Qe (by first | exact Yp (YP d ‹_› (Ug ‹_› ‹_› ‹_›)) | exact Yp (YP d ‹_› (Uh ‹_› ‹_› ‹_›)) | exact congrArg _ (ZI (Zs d fun g=>absurd g.1 ‹_›)) | exact congrArg _ (ZI (Zs d fun g=>absurd ((Ud ‹_›).symm.trans g.2) (by decide))) | exact congrArg _ (ZI (Zs d fun g=>absurd ((Ue ‹_›).symm.trans g.2) (by decide))) | exact congrArg _ (ZI (Zs d fun g=>absurd ((Uf ‹_› ‹_›).symm.trans g.2) (by decide))))),trivial⟩
 refine w3 ?_
 refine lgy rfl rfl (dK (Kg c ar.2.1 (by omega)) QaX) ?_
 refine w3 ?_
 cases L:(Yu c ar.2.1)
 refine w6 ?_
 refine lc (Qi Qex ⟨_,_,rfl,(Qk rfl),⟨_,_,rfl,(Qk rfl),⟨_,_,rfl,(Qk rfl),rfl⟩⟩⟩ (ak.1 rfl) rfl rfl) ?_
 refine lc (dBs 8 (e:=Zn) Qam (hab:=by exact ⟨_,_,_,_,rfl,⟨[dI (k:Int)],[dI (j:Int),dI (i:Int)],_,_,_,_,rfl,rfl,⟨rfl,rfl⟩,⟨[dI (j:Int)],[dI (i:Int)],_,_,_,_,rfl,rfl,⟨rfl,rfl⟩,⟨rfl,rfl⟩,rfl⟩,rfl⟩,⟨rfl,rfl⟩,rfl⟩)) ?_
 refine lc (dA 9 QeB) ?_
 refine w_ ?_
 refine Qb ?_
 refine w4 ?_
 refine Qb ?_
 refine l0_ ?_
 exact wp [(4,9)] ⟨rfl,(Qe (by first | exact Yp (YP d ‹_› (Ug ‹_› ‹_› ‹_›)) | exact Yp (YP d ‹_› (Uh ‹_› ‹_› ‹_›)) | exact congrArg _ (ZI (Zs d fun g=>absurd g.1 ‹_›)) | exact congrArg _ (ZI (Zs d fun g=>absurd ((Ud ‹_›).symm.trans g.2) (by decide))) | exact congrArg _ (ZI (Zs d fun g=>absurd ((Ue ‹_›).symm.trans g.2) (by decide))) | exact congrArg _ (ZI (Zs d fun g=>absurd ((Uf ‹_› ‹_›).symm.trans g.2) (by decide))))),trivial⟩
 refine w6 ?_
 refine Qb ?_
 refine l0_ ?_
 exact wp [] ⟨rfl,(Qe (by first | exact Yp (YP d ‹_› (Ug ‹_› ‹_› ‹_›)) | exact Yp (YP d ‹_› (Uh ‹_› ‹_› ‹_›)) | exact congrArg _ (ZI (Zs d fun g=>absurd g.1 ‹_›)) | exact congrArg _ (ZI (Zs d fun g=>absurd ((Ud ‹_›).symm.trans g.2) (by decide))) | exact congrArg _ (ZI (Zs d fun g=>absurd ((Ue ‹_›).symm.trans g.2) (by decide))) | exact congrArg _ (ZI (Zs d fun g=>absurd ((Uf ‹_› ‹_›).symm.trans g.2) (by decide))))),trivial⟩
 refine w4 ?_
 refine Qf rfl rfl rfl ?_ rfl
 refine Qf rfl rfl rfl ?_ rfl
 refine Qf rfl rfl rfl ?_ rfl
 refine Qf rfl rfl rfl ?_ rfl
 refine w9 ?_
 refine Qb ?_
 refine l0_ ?_
 exact wp [] ⟨rfl,(Qe (by first | exact Yp (YP d ‹_› (Ug ‹_› ‹_› ‹_›)) | exact Yp (YP d ‹_› (Uh ‹_› ‹_› ‹_›)) | exact congrArg _ (ZI (Zs d fun g=>absurd g.1 ‹_›)) | exact congrArg _ (ZI (Zs d fun g=>absurd ((Ud ‹_›).symm.trans g.2) (by decide))) | exact congrArg _ (ZI (Zs d fun g=>absurd ((Ue ‹_›).symm.trans g.2) (by decide))) | exact congrArg _ (ZI (Zs d fun g=>absurd ((Uf ‹_› ‹_›).symm.trans g.2) (by decide))))),trivial⟩
theorem Qen (c:Zi)(N:c.2.1.length≤300):FC Tryz.prog 353 [(true,[.dat Ql c.1, .dat Qo c.2.1, .dat Qw c.2.2])] [] 0 (YB 123 Qz (Z4 c (fun _ _=>true) c.2.1.length)):=by
 refine Qv Tryz.func353 rfl rfl Tryz.ntmps353 fun Q L P G R K J=> ?_
 refine w_ ?_
 refine xbx 0 ?_
 refine w9 ?_
 refine alL 7 fun _=> ?_
 refine w4 ?_
 refine AC.wk (Wk.nilS 1 3 123 Qz rfl (Fresh.of rfl) (nlr rfl)) ?_
 refine lp0 c.2.1.length (fun i=>⟨[(1,lP 0 0),(2,lf (.val (.slice none 0 0))),(3,lR 2),(8,lI (c.2.1.length:Int)),(9,lI (i:Int))],[bx 0 28 [.dat Ql c.1, .dat Qo c.2.1, .dat Qw c.2.2],ar 2 123 Qz (Z4 c (fun _ _=>true) i)]⟩) ?_ fun i _=> ?_
 exact wp [(2,1)] ⟨rfl,(Qe (rfl)),trivial⟩
 have C:=Hg (c:=c) (f:=fun _ _=>true) (i:=i) N
 refine w4 ?_
 cases v:(decide ((i:Int) < (c.2.1.length:Int)))
 have w:=aa v
 refine w7 ?_
 refine Qd<|fo_ L ?_
 (congr 1; omega)
 have w:=ab v
 refine w14 ?_
 refine QP (fun E F=>∃(m:Int) (d:List (List Int)),E=((c.2.1.length:Int) - m).toNat∧((i:Int)+1≤m∧m≤(c.2.1.length:Int))∧(d=Z4 c (fun _ _=>true) i++XS c (fun _ _=>true) i m.toNat)∧F=⟨[(1,lP 0 0),(2,lf (.val (.slice none 0 0))),(3,lR 3),(4,lI (i:Int)),(5,lI m),(8,lI (c.2.1.length:Int)),(9,lI (i:Int)),(10,lB true),(11,lI (i:Int)),(12,lI (i:Int)),(13,lI ((i:Int)+1))],[bx 0 28 [.dat Ql c.1, .dat Qo c.2.1, .dat Qw c.2.2],ar 3 123 Qz d]⟩) ⟨(i:Int)+1,Z4 c (fun _ _=>true) i,rfl,(by omega),(by rw[show ((i:Int)+1).toNat=i+1 by omega,Qbx,bs]),rfl⟩ ?_ ?_
 exact wp [(3,2)] ⟨rfl,(Qe (by first | rfl | simp)),trivial⟩
 rintro E F ⟨m,d,M,S,h,rfl⟩
 have O:d.length≤100000:=by rw[h,aj]; have:=QcD (c:=c) (f:=fun _ _=>true) (i:=i) (k:=m.toNat); have:=C (by omega); omega
 refine w5 ?_
 refine alL 16 fun _=> ?_
 refine w3 ?_
 cases x:(decide (m < (c.2.1.length:Int)))
 have z:=aa x
 refine w6 ?_
 refine Qb ?_
 refine l0_ ?_
 exact wp [(2,3)] ⟨rfl,(Qe ((by rw[h]; exact Qsi (by omega) (by omega)))),trivial⟩
 have z:=ab x
 refine w4 ?_
 obtain ⟨H,D⟩:=gx c.2.1 i
 have o:=D
 obtain ⟨I,A⟩:=gx c.2.1 ((m).toNat)
 have r:=A
 apply dW (i9 21 _ _ _ _ _ _ _ _ _ (i2 30 _ _ [])) [0,0,3,0,0,31,31,127,31,31,0]
 exact y11
 cases t:(decide (H=I))
 have u:=aa t
 refine w7 ?_
 refine Qb<|QW ⟨(m+1),d,rfl,(by omega),(by rw[h]; first | exact QoY (by omega) r o ‹_› | exact Quq (by omega) r o ‹_›),rfl⟩ (by omega) ?_
 exact wo []
 have u:=ab t
 refine w5 ?_
 refine lc (dBs 4 (e:= .int) Yk) ?_
 refine lc (dBs 5 (e:=Qz) WG (hab:=by exact ⟨_,_,_,_,rfl,(.inl ⟨_,rfl,rfl,rfl⟩),⟨rfl,rfl⟩,rfl⟩)) ?_
 refine lc (dA 6 H5) ?_
 refine w_ ?_
 refine Qb ?_
 refine w5 ?_
 refine Qb<|QW ⟨(m+1),(d++([[(i:Int),m]])),rfl,(by omega),(by rw[h]; first | exact QoY (by omega) r o ‹_› | exact Quq (by omega) r o ‹_›),rfl⟩ (by omega) ?_
 exact wp [(3,6)] ⟨rfl,(Qe (by first | rfl | simp)),trivial⟩
theorem Qav (c:Zi)(A:SgW c):FC Tryz.prog 222 [(true,[.dat Ql c.1, .dat Qo c.2.1, .dat Qw c.2.2])] [] 0 (QY (lf (.dat Vz (Zt c)))):=by
 have V:∀a∈c.2.2,InR c.2.1.length a:=fun a K=>(A.arcs a K).1
 have N:=A.some_
 have M:=A.few
 have U:=A.sig8
 have P:=Hg (c:=c) (f:=fun _ _=>true) (i:=c.2.1.length) (by omega) (aJ _)
 have O:=KY (ss:=c.1) (k:=c.1.length)
 refine Qv Tryz.func222 rfl rfl Tryz.ntmps222 fun S J R G T I H=> ?_
 refine w_ ?_
 refine xbx 0 ?_
 refine w6 ?_
 refine XM<|AC.wk (Wk.nilS 1 3 123 Qz rfl (Fresh.of rfl) (nlr rfl))<|AC.wk (Wk.toFz (q:=1) rfl) ?_
 refine w2 ?_
 refine lc (dK (Qen c (by omega)).frozen QmP) ?_
 refine alL 10 fun _=> ?_
 refine w4 ?_
 refine lp0 ((Z4 c (fun _ _=>true) c.2.1.length).length) (fun k=>⟨[(1,lP 0 0),(2,lf (.val (.slice none 0 0))),(3,lR 2),(10,lf (.dat Vz (Z4 c (fun _ _=>true) c.2.1.length))),(11,lI ((Z4 c (fun _ _=>true) c.2.1.length).length:Int)),(12,lI (k:Int))],[bx 0 28 [.dat Ql c.1, .dat Qo c.2.1, .dat Qw c.2.2],(2,some (.fz 123 Qz (((Z4 c (fun _ _=>true) c.2.1.length).take k).filter (Qqb c))))]⟩) ?_ fun k _=> ?_
 exact wp [(2,1)] ⟨rfl,(QvP (rfl)),trivial⟩
 have L:=bK (Qqb c) ((Z4 c (fun _ _=>true) c.2.1.length).take k)
 have Q:((Z4 c (fun _ _=>true) c.2.1.length).take k).length≤(Z4 c (fun _ _=>true) c.2.1.length).length:=by simp only[ao]; omega
 refine w4 ?_
 cases u:(decide ((k:Int) < ((Z4 c (fun _ _=>true) c.2.1.length).length:Int)))
 have w:=aa u
 refine w7 ?_
 refine AC.wk (QlR (i:=2) (q:=2) rfl rfl)<|Qd<|fq_ J ?_
 first | (rw[QT (by omega)]; exact Qr5)
 have w:=ab u
 refine w5 ?_
 obtain ⟨C,o⟩:=gx (Z4 c (fun _ _=>true) c.2.1.length) k
 obtain ⟨r,t,d⟩:=QuS o
 have F:C.length=2:=by rw[d]; rfl
 refine w10 ?_
 refine lc (dK (Qem c (by omega)).frozen Qqn) ?_
 refine alL 17 fun _=> ?_
 refine w4 ?_
 refine lp0 ((Q6 c.1 c.1.length).length) (fun j=>⟨[(1,lP 0 0),(2,lf (.val (.slice none 0 0))),(3,lR 2),(5,lf (.dat Qz C)),(6,lB (((Q6 c.1 c.1.length).take j).any (fun s=> !(ZT c (r:Int) s==ZT c (t:Int) s)))),(10,lf (.dat Vz (Z4 c (fun _ _=>true) c.2.1.length))),(11,lI ((Z4 c (fun _ _=>true) c.2.1.length).length:Int)),(12,lI (k:Int)),(13,lB true),(14,lf (.elt Qz C 0)),(15,lf (.dat Qz C)),(16,ag [.dat Ql c.1, .dat Qo c.2.1, .dat Qw c.2.2]),(17,lf (.dat Qz (Q6 c.1 c.1.length))),(18,lI ((Q6 c.1 c.1.length).length:Int)),(19,lI (j:Int))],[bx 0 28 [.dat Ql c.1, .dat Qo c.2.1, .dat Qw c.2.2],(2,some (.fz 123 Qz (((Z4 c (fun _ _=>true) c.2.1.length).take k).filter (Qqb c))))]⟩) ?_ fun j _=> ?_
 exact Wk.of [] rfl ⟨rfl,rfl,rfl,rfl,(show some (lB false)=some (lB (((Q6 c.1 c.1.length).take 0).any (fun s=> !(ZT c (r:Int) s==ZT c (t:Int) s)))) from congrArg (fun z_=>some (lB z_)) (rfl)),rfl,rfl,rfl,rfl,rfl,rfl,rfl,rfl,rfl,rfl,trivial⟩ ⟨rfl,rfl,trivial⟩ rfl rfl
 refine w4 ?_
 cases x:(decide ((j:Int) < ((Q6 c.1 c.1.length).length:Int)))
 have z:=aa x
 refine w6 ?_
 cases D:(((Q6 c.1 c.1.length).take j).any (fun s=> !(ZT c (r:Int) s==ZT c (t:Int) s)))
 refine w6 ?_
 refine Qb ?_
 refine l0_ ?_
 exact wp [] ⟨rfl,(QvP (by first | exact Qo2 o (QbQ (k:=j) d (by omega) ‹_›) | exact Qsn o (QbQ (k:=j) d (by omega) ‹_›))),trivial⟩
 refine w4 ?_
 refine lc (QiD 3 W5 Xh WG (Qk rfl) (by (rw[d]; simp)) rfl (Fresh.of rfl) (nlr rfl))<|lc (Qg4 4 (Qa rfl) rfl (Qa rfl) rfl W5 H5 (by first | omega | (simp only[aj,aF,ao,au,aH]; omega) | (simp only[aj,bh,ao,au,aH]; omega)) rfl (Fresh.of rfl) (nlr rfl)) ?_
 refine w_ ?_
 refine Qb ?_
 refine w4 ?_
 refine Qb ?_
 refine l0_ ?_
 exact wp [(2,4)] ⟨rfl,(QvP (by first | exact Qo2 o (QbQ (k:=j) d (by omega) ‹_›) | exact Qsn o (QbQ (k:=j) d (by omega) ‹_›))),trivial⟩
 have z:=ab x
 refine w5 ?_
 obtain ⟨sg,e⟩:=gx (Q6 c.1 c.1.length) j
 refine w2 ?_
 refine alI 22 fun _=> ?_
 refine w2 ?_
 cases E:(((Q6 c.1 c.1.length).take j).any (fun s=> !(ZT c (r:Int) s==ZT c (t:Int) s)))
 apply dV (i4 23 _ _ _ _ (io 27 (lf (.elt .int (r:Int) 0)) :: i2 28 _ _ (io 30 (lB (ZT c (r:Int) sg)) :: i2 31 _ _ (io 33 (lf (.elt .int (t:Int) 0)) :: i2 34 _ _ [io 36 (lB (ZT c (t:Int) sg)),io 37 (lB (!((ZT c (r:Int) sg)==(ZT c (t:Int) sg)))),io 38 _,io 6 _])))) [0,0,0,4,4,4,60,0,252,508,508,508,4092,0,0,0,0]
 refine z4 ?_
 refine zz (fun _ h=>day rfl (h.k rfl) (UF (h.v rfl) (Qy rfl) Z6 Y6 rfl (by omega) (by rw[d]; rfl)) rfl) ?_
 refine z2 ?_
 refine zz (fun _ h=>day rfl (h.k rfl) (dK (YC c (r:Int) sg) Um) rfl) ?_
 refine z2 ?_
 refine zz (fun _ h=>day rfl (h.k rfl) (UF (h.v rfl) (Qy rfl) Z6 Y6 rfl (by omega) (by rw[d]; rfl)) rfl) ?_
 refine z2 ?_
 refine zz (fun _ h=>day rfl (h.k rfl) (dK (YC c (t:Int) sg) Um) rfl) ?_
 refine zz (fun _ h=>day rfl (h.k rfl) (WQ (h.v rfl) (h.v rfl) rfl JU) rfl) ?_
 exact y2
 refine w4 ?_
 refine Qb ?_
 refine l0_ ?_
 exact Wk.of [] rfl ⟨rfl,rfl,rfl,rfl,(show some (lB (!((ZT c (r:Int) sg)==(ZT c (t:Int) sg))))=some (lB (((Q6 c.1 c.1.length).take (j+1)).any (fun s=> !(ZT c (r:Int) s==ZT c (t:Int) s)))) from congrArg (fun z_=>some (lB z_)) (by first | exact QrR e ‹_› | exact QrQ e ‹_›)),rfl,rfl,rfl,rfl,rfl,rfl,rfl,rfl,rfl,rfl,trivial⟩ ⟨rfl,rfl,trivial⟩ rfl rfl
 apply dV (i9 23 _ _ _ _ _ _ _ _ _ (i7 32 _ _ _ _ _ _ _ [io 6 _])) [0,0,0,4,4,4,60,0,252,508,508,508,4092,0,0,0,0]
 refine z16 ?_
 exact y1
 refine w4 ?_
 refine Qb ?_
 refine l0_ ?_
 exact Wk.of [] rfl ⟨rfl,rfl,rfl,rfl,(show some (lB true)=some (lB (((Q6 c.1 c.1.length).take (j+1)).any (fun s=> !(ZT c (r:Int) s==ZT c (t:Int) s)))) from congrArg (fun z_=>some (lB z_)) (by first | exact QrR e ‹_› | exact QrQ e ‹_›)),rfl,rfl,rfl,rfl,rfl,rfl,rfl,rfl,rfl,rfl,trivial⟩ ⟨rfl,rfl,trivial⟩ rfl rfl
theorem Qap (a:Qfy):FC Tryz.prog 291 [(true,[dI a.1,dI a.2.1,dB a.2.2.1,dI a.2.2.2])] [] 0 (QY (lB (decide (a.2.1= -1)))):=by
 refine Qv Tryz.func291 rfl rfl Tryz.ntmps291 fun t o r d u h e=> ?_
 refine acG 0 0 fun _=> ?_
 refine acG 0 1 fun _=> ?_
 refine acG 0 3 fun _=> ?_
 refine w_ ?_
 refine xbx 0 ?_
 refine w8 ?_
 refine Qd<|fqB o ?_
 rfl
theorem Hp (l:QcX):FC Tryz.prog 340 [(false,[.dat Qw l]),(false,[.clo 291 []])] [] 0 (QY (lI (Zq (fun a:DAr=>decide (a.2.1= -1)) l))):=by
 refine Qv Tryz.func340 rfl rfl Tryz.ntmps340 fun C v A w D z x=> ?_
 refine w6 ?_
 refine alL 6 fun _=> ?_
 refine w4 ?_
 refine lpK l.length (fun k=>NoneTo (fun a:DAr=>decide (a.2.1= -1)) l k) (fun k=>⟨[(0,lf (.dat Qw l)),(1,lf (.clo 291 [])),(7,lI (l.length:Int)),(8,lI (k:Int))],[]⟩) (NoneTo.zero) ?_ fun k _ d=> ?_
 exact wo []
 refine w4 ?_
 cases h:(decide ((k:Int) < (l.length:Int)))
 have o:=aa h
 refine w6 ?_
 refine Qd<|fqI v ?_
 first | exact (d.no (by omega)).symm
 have o:=ab h
 refine w12 ?_
 obtain ⟨e,u⟩:=gx l k
 refine w2 ?_
 refine lc (YH (args0:=[(true,[dI e.1,dI e.2.1,dB e.2.2.1,dI e.2.2.2])]) (caps:=[]) 0 [] (Qap e) QmC rfl (Qa rfl) rfl rfl ⟨_,_,rfl,(Qk rfl),rfl⟩ trivial rfl trivial (nlr rfl)) ?_
 refine w_ ?_
 cases r:(decide (e.2.1= -1))
 have t:=aa r
 refine w6 ?_
 refine Qb ?_
 refine lK_ (d.step u (by first | assumption | (simp[*]; done))) ?_
 exact wo []
 have t:=ab r
 refine w5 ?_
 refine Qd<|fqI v ?_
 exact (d.at u (by first | assumption | (simp[*]; done))).symm
theorem Kt (l:QcX):FC Tryz.prog 204 [(false,[.dat Qw l]),(false,[.clo 291 []])] [] 0 (QY (lB (l.any (fun a:DAr=>decide (a.2.1= -1))))):=by
 refine Qv Tryz.func204 rfl rfl Tryz.ntmps204 fun t o r d u h e=> ?_
 refine w6 ?_
 refine lc (dK (Hp l) Ji) ?_
 refine w3 ?_
 refine Qd<|fqB o ?_
 exact Vq _ _
theorem UK (c:Zi)(d:SgW c):FC Tryz.prog 152 [(true,[.dat Ql c.1, .dat Qo c.2.1, .dat Qw c.2.2])] [] 0 (QY (lf (dS (YW c)))):=by
 have o:∀a∈c.2.2,InR c.2.1.length a:=fun a h=>(d.arcs a h).1
 have x:=d.some_
 have w:=d.few
 have D:=d.sig8
 refine Qv Tryz.func152 rfl rfl Tryz.ntmps152 fun A e z r C u t=> ?_
 refine w_ ?_
 refine xbx 0 ?_
 refine w7 ?_
 refine lc (Qhu (Kt c.2.2) QaW ⟨_,_,rfl,(Qk rfl),⟨_,_,rfl,(Evl.ev Qrp),rfl⟩⟩ rfl rfl) ?_
 refine w2 ?_
 cases v:(c.2.2.any (fun a:DAr=>decide (a.2.1= -1)))
 refine w3 ?_
 refine lc (dK (Qd8 c (by omega) (fun a h=>Qn4 (d.arcs a h).2)).frozen Qmj) ?_
 refine alL 9 fun _=> ?_
 refine w4 ?_
 refine cd_ (fun _ _=> ?_) fun _ _=> ?_
 refine w2 ?_
 refine lc (dK (Qbk c d).frozen QmD) ?_
 refine alL 14 fun _=> ?_
 refine w4 ?_
 refine cd_ (fun _ _=> ?_) fun _ _=> ?_
 refine w2 ?_
 refine lc (dK (Wy c d) QaZ) ?_
 refine alL 19 fun _=> ?_
 refine w4 ?_
 refine cd_ (fun _ _=> ?_) fun _ _=> ?_
 refine w5 ?_
 refine Qd<|fqS e ?_
 exact Qxx ‹_› ‹_› (Qr0 o ‹_›) ‹_›
 refine w3 ?_
 refine Qd<|fqS e ?_
 exact Qxw ‹_› ‹_› (Qr0 o ‹_›) ‹_›
 refine w3 ?_
 refine Qd<|fqS e ?_
 exact Qxv ‹_› ‹_› (QvF o ‹_›)
 refine w3 ?_
 refine Qd<|fqS e ?_
 exact Qxu ‹_› ‹_›
 refine w4 ?_
 refine Qd<|fqS e ?_
 exact Qxt ‹_›
theorem Qdi (c:Zi)(C:∀a∈c.2.2, -1≤a.2.1):FC Tryz.prog 219 [(true,[.dat Ql c.1, .dat Qo c.2.1, .dat Qw c.2.2])] [] 0 (QY (lB (Qjb c))):=by
 refine Qv Tryz.func219 rfl rfl Tryz.ntmps219 fun F u D w G z x=> ?_
 refine w_ ?_
 refine xbx 0 ?_
 refine w6 ?_
 refine alL 6 fun _=> ?_
 refine w4 ?_
 refine lpK c.2.2.length (fun k=>∀j,j < k→∀a,c.2.2[j]? =some a→¬a.2.1 < 0) (fun k=>⟨[(6,lf (.dat Qw c.2.2)),(7,lI (c.2.2.length:Int)),(8,lI (k:Int))],[]⟩) ((fun j A=>absurd A (bg j))) ?_ fun k _ t=> ?_
 exact wo []
 refine w4 ?_
 cases e:(decide ((k:Int) < (c.2.2.length:Int)))
 have h:=aa e
 refine w6 ?_
 refine Qd<|fqB u ?_
 first | exact QvX t (by omega)
 have h:=ab e
 refine w5 ?_
 obtain ⟨E,d⟩:=gx c.2.2 k
 have v:=Qg0 C d
 refine w2 ?_
 refine lc (xal 1 QD QU) ?_
 refine w5 ?_
 refine alI 13 fun _=> ?_
 refine w2 ?_
 cases o:(decide (E.2.1 < 0))
 have r:=aa o
 refine w6 ?_
 refine Qb ?_
 refine lK_ ((Yw t d ‹_›)) ?_
 exact wo []
 have r:=ab o
 refine w4 ?_
 refine Qd<|fqB u ?_
 exact QuE d ‹_› ‹_›
theorem Kh (c:Zi)(d:SgW c):FC Tryz.prog 82 [(true,[.dat Ql c.1, .dat Qo c.2.1, .dat Qw c.2.2])] [] 0 (QY (lf (dS (YW c)))):=by
 have C:∀a∈c.2.2,InR c.2.1.length a:=fun a h=>(d.arcs a h).1
 have v:=d.some_
 have u:=d.few
 have A:=d.sig8
 refine Qv Tryz.func82 rfl rfl Tryz.ntmps82 fun x e w o z t r=> ?_
 refine w_ ?_
 refine xbx 0 ?_
 refine w6 ?_
 refine lc (dK (Qdi c (fun a h=>Qn4 (d.arcs a h).2)) Qmo) ?_
 refine w2 ?_
 refine cb_ (fun _=> ?_) fun _=> ?_
 refine w2 ?_
 refine lc (dK (Qgd c (by omega) (fun a h=>Qn4 (d.arcs a h).2)).frozen Qmp) ?_
 refine alL 8 fun _=> ?_
 refine w4 ?_
 refine cd_ (fun _ _=> ?_) fun _ _=> ?_
 refine w2 ?_
 refine lc (dK (Qdh c d).frozen Qmq) ?_
 refine alL 13 fun _=> ?_
 refine w4 ?_
 refine cd_ (fun _ _=> ?_) fun _ _=> ?_
 refine w2 ?_
 refine lc (dK (Qav c d) Qmr) ?_
 refine alL 18 fun _=> ?_
 refine w4 ?_
 refine cd_ (fun _ _=> ?_) fun _ _=> ?_
 refine w5 ?_
 refine Qd<|fqS e ?_
 exact Qxx ‹_› ‹_› ‹_› ‹_›
 refine w3 ?_
 refine Qd<|fqS e ?_
 exact Qxw ‹_› ‹_› ‹_› ‹_›
 refine w3 ?_
 refine Qd<|fqS e ?_
 exact Qxv ‹_› ‹_› ‹_›
 refine w3 ?_
 refine Qd<|fqS e ?_
 exact Qxu ‹_› ‹_›
 refine w3 ?_
 refine Qd<|fqS e ?_
 exact Qxt ‹_›
theorem Qc1 (c:Zi)[∀c,Decidable (SgOk c)]:FC Tryz.prog 185 [(true,[.dat Ql c.1, .dat Qo c.2.1, .dat Qw c.2.2])] [] 0 (QY (PV.tup [(false,[dS (if SgOk c then YW c else ⟨#[]⟩)]),(false,[dB (decide (SgOk c))])])):=by
 refine Qv Tryz.func185 rfl rfl Tryz.ntmps185 fun D o C r E A z=> ?_
 refine w_ ?_
 refine xbx 0 ?_
 refine w6 ?_
 refine lc (dK (ZR c) Jg) ?_
 refine w2 ?_
 cases d:(decide (SgOk c))
 have h:=aa d
 refine w6 ?_
 have t:((⟨#[]⟩:ByteArray):ByteArray)=(if SgOk c then YW c else ⟨#[]⟩):=by
  (simp[*]; done)
 have u:(false:Bool)=(decide (SgOk c)):=by
  (simp[*]; done)
 exact fr_ o (e:=((congrArg (fun z_=>PV.tup [(false,[dS z_]),(false,[dB false])]) t)).trans (congrArg (fun z_=>PV.tup [(false,[dS (if SgOk c then YW c else ⟨#[]⟩)]),(false,[dB z_])]) u))
 have h:=ab d
 refine w4 ?_
 refine lc (dK (UK c (by assumption:SgOk c).w) QfA) ?_
 refine w4 ?_
 have v:(YW c:ByteArray)=(if SgOk c then YW c else ⟨#[]⟩):=by
  (simp[*]; done)
 have x:(true:Bool)=(decide (SgOk c)):=by
  (simp[*]; done)
 exact fr_ o (e:=((congrArg (fun z_=>PV.tup [(false,[dS z_]),(false,[dB true])]) v)).trans (congrArg (fun z_=>PV.tup [(false,[dS (if SgOk c then YW c else ⟨#[]⟩)]),(false,[dB z_])]) x))
theorem Kw (c:Zi)[∀c,Decidable (SgOk c)]:FC Tryz.prog 58 [(true,[.dat Ql c.1, .dat Qo c.2.1, .dat Qw c.2.2])] [] 0 (QY (PV.tup [(false,[dB (decide ((if SgOk c then YW c else ⟨#[]⟩)=Vs))]),(false,[dB (decide (SgOk c))])])):=by
 refine Qv Tryz.func58 rfl rfl Tryz.ntmps58 fun v t u d w r o=> ?_
 refine w_ ?_
 refine xbx 0 ?_
 refine w5 ?_
 refine lc (dK (Qc1 c) Qmi) ?_
 refine w14 ?_
 have h:(decide ((if SgOk c then YW c else ⟨#[]⟩)=(⟨#[109,97,100,101]⟩:ByteArray)):Bool)=(decide ((if SgOk c then YW c else ⟨#[]⟩)=Vs)):=by
  rfl
 exact fr_ t (e:=by rw[h] <;> rfl)
theorem Qwb {c:DSg}[Decidable (SgOk c)](h:SgOk c):decide ((if SgOk c then YW c else ⟨#[]⟩)=Vs)=decide (SgOk c∧YW c=Vs):=by rw[if_pos h]; simp[h]
theorem Qwa {c:DSg}[Decidable (SgOk c)](h:¬SgOk c):false=decide (SgOk c∧YW c=Vs):=(aB fun g=>h g.1).symm
theorem Qf4 (c:Zi)[∀c,Decidable (SgOk c)]:FC Tryz.prog 77 [(true,[.dat Ql c.1, .dat Qo c.2.1, .dat Qw c.2.2])] [] 0 (QY (lB (decide (SgOk c∧YW c=Vs)))):=by
 refine Qv Tryz.func77 rfl rfl Tryz.ntmps77 fun v h u o w t r=> ?_
 refine w_ ?_
 refine xbx 0 ?_
 refine w4 ?_
 refine lc (dK (Kw c) Qql) ?_
 refine w9 ?_
 cases d:(decide (SgOk c))
 have e:=aa d
 refine w4 ?_
 refine Qd<|fqB h ?_
 exact Qwa ‹_›
 have e:=ab d
 refine w4 ?_
 refine Qd<|fqB h ?_
 exact Qwb ‹_›
end Go.Proofs.YtndabgcpnmeeoaaGreat
