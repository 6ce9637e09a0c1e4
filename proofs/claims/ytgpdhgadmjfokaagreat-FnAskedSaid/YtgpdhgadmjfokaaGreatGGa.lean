/- Walks over abstract states: what speaks against an implementation, both sides. -/
import Derived.Test.YtgpdhgadmjfokaaGreatGUj
import Derived.Test.YtgpdhgadmjfokaaGreatGFz
set_option linter.unusedSimpArgs false
set_option linter.unusedVariables false
set_option linter.unusedSectionVars false
namespace Go.Proofs.YtgpdhgadmjfokaaGreat
open Go.RowKit
set_option maxRecDepth 100000
set_option maxHeartbeats 4000000
def rg {β:Type}(f:Nat→Option β)(m:Nat):List β:=(List.range m).filterMap f
def rf {β:Type}(f:Nat→List β)(m:Nat):List β:=(List.range m).flatMap f
section
variable {β:Type}{f:Nat→Option β}{g:Nat→List β}{m n i j k b:Nat}{y:β}{B:List β}
theorem ZB (h:f m=some y):B++rg f m++[y]=B++rg f (m+1):=by
  unfold rg; rw[cp,List.filterMap_append]; simp[h]
theorem Q0 (h:f m=none):rg f m=rg f (m+1):=by
  unfold rg; rw[cp,List.filterMap_append]; simp[h]
theorem WL:(rg f m).length≤m:=bA (List.length_filterMap_le ..) (by simp)
theorem QkK (h:∀j,j < m→f j=none):rg f m=[]:=by
  unfold rg; rw[List.filterMap_eq_nil_iff]; intro j hj; exact h j (cd.1 hj)
theorem UD:rf g i++g i=rf g (i+1):=by unfold rf; rw[cp,List.flatMap_append]; simp
theorem QkW (h:∀i,(g i).length≤b):(rf g n).length≤n*b:=by
  induction n with
  | zero=>simp[rf]
  | succ n ih=>rw[← UD,ao,Nat.succ_mul]; have:=h n; omega
theorem Qec:y∈rg f m↔∃j,j < m∧f j=some y:=by unfold rg; rw[List.mem_filterMap]; simp
theorem QfY:rg f m=[]↔∀j,j < m→f j=none:=by unfold rg; rw[List.filterMap_eq_nil_iff]; simp
theorem QpA:rf g m=[]↔∀j,j < m→g j=[]:=by unfold rf; rw[List.flatMap_eq_nil_iff]; simp
end
def arA (as_:List DAr)(j:Nat):DAr:=(as_[j]?).getD (0,0,false,0)
theorem Uf {as_:List DAr}{j:Nat}{a:DAr}(h:as_[j]? =some a):arA as_ j=a:=by unfold arA; rw[h]; rfl
def HT (as_:List DAr)(i j:Nat):Option (List Int):=if i < j∧0≤(arA as_ i).2.1∧(arA as_ j).1=(arA as_ i).1∧(arA as_ j).2.1=(arA as_ i).2.1∧(arA as_ j).2.2.2≠(arA as_ i).2.2.2 then some [(i:Int),(j:Int)] else none
def VR (as_:List DAr)(i:Nat):List (List Int):=rf (fun i=>rg (HT as_ i) as_.length) i
section
variable {as_:List DAr}{a b:DAr}{i j k m:Nat}{c:DSg}{s q:Int}
theorem QlA (ha:as_[i]? =some a)(hb:as_[j]? =some b)(h:i < j)(h0:0≤a.2.1)(h1:b.1=a.1)(h2:b.2.1=a.2.1)(h3:¬b.2.2.2=a.2.2.2):HT as_ i j=some [(i:Int),(j:Int)]:=by
  unfold HT; rw[Uf ha,Uf hb,if_pos ⟨h,h0,h1,h2,h3⟩]
theorem WB (ha:as_[i]? =some a)(hb:as_[j]? =some b)(h:¬(0≤a.2.1∧b.1=a.1∧b.2.1=a.2.1∧¬b.2.2.2=a.2.2.2)):HT as_ i j=none:=by
  unfold HT; rw[Uf ha,Uf hb,if_neg fun g=>h g.2]
theorem Qcu:rg (HT as_ i) (i+1)=[]:=QkK fun j hj=>if_neg fun g=>by omega
theorem QnT:(VR as_ i).length≤i*as_.length:=QkW fun _=>WL
theorem Qiz (h:as_.length≤4000)(hi:i≤as_.length):(VR as_ i).length≤16000000:=bA QnT (bA (d9 (bA hi h) h) (by decide))
def VS (c:DSg)(k s:Int)(a:DAr):Bool:= !decide (a.2.1=s)&&(!QH c a.2.2.2 s&& !(QE c s&&QE c a.2.1))
def QfG (c:DSg)(k s:Int)(n:Nat):Option (Int×Int×Int):=if (arA c.2.2 n).1=k∧VS c k s (arA c.2.2 n)=true then some (k,s,(n:Int)) else none
def QdV (c:DSg)(ts:List Int)(k s:Int)(i:Nat):Option (Int×Int×Int):=match ts[i]? with
  | some q=>if VS c k s (arA c.2.2 q.toNat)=true then some (k,s,q) else none
  | none=>none
def nxA (c:DSg)(k:Nat):List Int:=((Q1 c.2.1.length (ixE c.2.2))[k]?).getD []
def XB (c:DSg)(r:Nat→Nat→List (Int×Int×Int))(k j:Nat):List (Int×Int×Int):=rf (fun s=>if QH c (k:Int) (s:Int)=true then r k s else []) j
def rwS (c:DSg)(k s:Nat):List (Int×Int×Int):=rg (QfG c k s) c.2.2.length
def rwI (c:DSg)(k s:Nat):List (Int×Int×Int):=rg (QdV c (nxA c k) k s) (nxA c k).length
def Xg (c:DSg)(r:Nat→Nat→List (Int×Int×Int))(n:Nat):List (Int×Int×Int):=rf (fun k=>XB c r k c.1.length) n
theorem ZZ (ha:c.2.2[m]? =some a)(h:a.1=q)(hb:VS c q s a=true):QfG c q s m=some (q,s,(m:Int)):=by unfold QfG; rw[Uf ha,if_pos ⟨h,hb⟩]
theorem Zc (ha:c.2.2[m]? =some a)(h:¬(a.1=q∧VS c q s a=true)):QfG c q s m=none:=by unfold QfG; rw[Uf ha,if_neg h]
theorem Yr {ts:List Int}{t:Int}(ht:ts[m]? =some t)(ha:c.2.2[t.toNat]? =some a)(hb:VS c q s a=true):QdV c ts q s m=some (q,s,t):=by
  unfold QdV; rw[ht]; show (if _ then _ else _)=_; rw[Uf ha,if_pos hb]
theorem ZX {ts:List Int}{t:Int}(ht:ts[m]? =some t)(ha:c.2.2[t.toNat]? =some a)(hb:VS c q s a=false):QdV c ts q s m=none:=by
  unfold QdV; rw[ht]; show (if _ then _ else _)=_; rw[Uf ha,if_neg (by rw[hb]; decide)]
theorem Wo (h:a.2.1=s):VS c q s a=false:=by unfold VS; rw[aI h]; rfl
theorem X2 (h:QH c a.2.2.2 s=true):VS c q s a=false:=by unfold VS; rw[h]; simp
theorem X7 (h:QE c s=true)(h2:QE c a.2.1=true):VS c q s a=false:=by unfold VS; rw[h,h2]; simp
theorem Wr (h:¬a.2.1=s)(h1:QH c a.2.2.2 s=false)(h2:QE c s=false):VS c q s a=true:=by unfold VS; rw[aF h,h1,h2]; rfl
theorem Wl (h:¬a.2.1=s)(h1:QH c a.2.2.2 s=false)(h2:QE c a.2.1=false):VS c q s a=true:=by unfold VS; rw[aF h,h1,h2]; simp
theorem Qnu {s k:Nat}:(rwS c k s).length≤c.2.2.length:=WL
theorem QgJ {ts:List Int}(h:(Q1 c.2.1.length (ixE c.2.2))[k]? =some ts):nxA c k=ts:=by unfold nxA; rw[h]; rfl
theorem QnL {s k:Nat}(hk:k < c.2.1.length):(rwI c k s).length≤c.2.2.length:=by
  obtain ⟨ts,hts⟩:∃ts,(Q1 c.2.1.length (ixE c.2.2))[k]? =some ts:=⟨_,aa (by rw[YF]; exact hk)⟩
  have h1:(rwI c k s).length≤(nxA c k).length:=WL
  have h2:=Vd hts
  rw[Jf] at h2
  rw[QgJ hts] at h1
  omega
theorem Qfb {r:Nat→Nat→List (Int×Int×Int)}(h:∀s,(r k s).length≤c.2.2.length):(XB c r k j).length≤j*c.2.2.length:=QkW fun s=>by
  split
  · exact h s
  · exact aU _
theorem Qmi {r:Nat→Nat→List (Int×Int×Int)}{n:Nat}(h:∀k s,k < n→(r k s).length≤c.2.2.length):(Xg c r n).length≤n*(c.1.length*c.2.2.length):=by
  induction n with
  | zero=>simp[Xg,rf]
  | succ n ih=>
    have h1:=ih fun k s hk=>h k s (by omega)
    have h2:(XB c r n c.1.length).length≤c.1.length*c.2.2.length:=Qfb fun s=>h n s (by omega)
    have h3:Xg c r n++XB c r n c.1.length=Xg c r (n+1):=UD
    rw[← h3,ao,Nat.succ_mul]; omega
theorem QiT (hs:SgW c){r:Nat→Nat→List (Int×Int×Int)}{n:Nat}(hn:n≤c.2.1.length)(hj:j≤c.1.length)(h:∀k s,k < c.2.1.length→(r k s).length≤c.2.2.length):(Xg c r n).length≤9600000∧(k < c.2.1.length→(XB c r k j).length≤32000):=by
  have h8:=hs.sig8; have hn3:=hs.some_; have hfw:=hs.few
  have h1:=Qmi (c:=c) (r:=r) (n:=n) fun k s hk=>h k s (by omega)
  have h2:c.1.length*c.2.2.length≤8*4000:=d9 h8 hfw
  have h3:n*(c.1.length*c.2.2.length)≤300*(8*4000):=d9 (by omega) h2
  refine ⟨by omega,fun hk=> ?_⟩
  have h4:(XB c r k j).length≤j*c.2.2.length:=Qfb fun s=>h k s hk
  have h5:j*c.2.2.length≤8*4000:=d9 (by omega) hfw
  omega
theorem Qc3 {r:Nat→Nat→List (Int×Int×Int)}(h:c.1.length≤j)(hj:j≤c.1.length):Xg c r k++XB c r k j=Xg c r (k+1):=by
  obtain rfl:j=c.1.length:=by omega
  exact UD
theorem H1 {r:Nat→Nat→List (Int×Int×Int)}{L:List (Int×Int×Int)}(h:QH c (k:Int) (j:Int)=false):L++XB c r k j=L++XB c r k (j+1):=by
  have:XB c r k j++(if QH c (k:Int) (j:Int)=true then r k j else [])=XB c r k (j+1):=UD
  rw[← this,if_neg (by rw[h]; decide),bn]
theorem Qfw {r:Nat→Nat→List (Int×Int×Int)}{L:List (Int×Int×Int)}(h:QH c (k:Int) (j:Int)=true):L++XB c r k j++r k j=L++XB c r k (j+1):=by
  have:XB c r k j++(if QH c (k:Int) (j:Int)=true then r k j else [])=XB c r k (j+1):=UD
  rw[← this,if_pos h,aP]
theorem QcY {L:List (Int×Int×Int)}{i:Nat}(h:QH c (k:Int) (j:Int)=true)(hi:c.2.2.length≤i)(hi2:i≤c.2.2.length):L++XB c (rwS c) k j++rg (QfG c k j) i=L++XB c (rwS c) k (j+1):=by
  obtain rfl:i=c.2.2.length:=by omega
  exact Qfw (r:=rwS c) h
theorem Qc0 {L:List (Int×Int×Int)}{i:Nat}{ts:List Int}(h:QH c (k:Int) (j:Int)=true)(ht:(Q1 c.2.1.length (ixE c.2.2))[k]? =some ts)(hi:ts.length≤i)(hi2:i≤ts.length):L++XB c (rwI c) k j++rg (QdV c ts k j) i=L++XB c (rwI c) k (j+1):=by
  obtain rfl:i=ts.length:=by omega
  have e:rg (QdV c ts k j) ts.length=rwI c k j:=by unfold rwI; rw[QgJ ht]
  rw[e]; exact Qfw (r:=rwI c) h
theorem Qim (hr:∀a∈c.2.2,InR c.2.1.length a)(h0:0≤q∧q < (c.2.1.length:Int))(hs:0≤s){y:Int}(hy:(Yz c.2.1.length c.2.2)[q.toNat]? =some y):decide ((((y / 2 ^ (2*s).toNat).toNat &&& (3:Int).toNat:Nat):Int)=0)= !QH c q s:=by
  have h:=VU (c:=c) (k:=q.toNat) (s:=s) (fun a ha=>(hr a ha).1.1) (by omega) hs
  rw[show ((q.toNat:Nat):Int)=q by omega] at h
  rw[XS hy] at h
  exact h
theorem VE (hr:∀a∈c.2.2,InR c.2.1.length a)(h0:0≤q∧q < (c.2.1.length:Int))(hs:0≤s){y:Int}(hy:(Yz c.2.1.length c.2.2)[q.toNat]? =some y)(h:(((y / 2 ^ (2*s).toNat).toNat &&& (3:Int).toNat:Nat):Int)=0):QH c q s=false:=by
  have:=Qim hr h0 hs hy
  rw[aI h] at this
  simpa using this.symm
theorem Qbl (hr:∀a∈c.2.2,InR c.2.1.length a)(h0:0≤q∧q < (c.2.1.length:Int))(hs:0≤s){y:Int}(hy:(Yz c.2.1.length c.2.2)[q.toNat]? =some y)(h:¬(((y / 2 ^ (2*s).toNat).toNat &&& (3:Int).toNat:Nat):Int)=0):QH c q s=true:=by
  have:=Qim hr h0 hs hy
  rw[aF h] at this
  simpa using this.symm
theorem QfM {k s:Nat}(hr:∀a∈c.2.2,InR c.2.1.length a)(hk:k < c.2.1.length):rwI c k s=[]↔rwS c k s=[]:=by
  obtain ⟨ts,hts⟩:∃ts,(Q1 c.2.1.length (ixE c.2.2))[k]? =some ts:=⟨_,aa (by rw[YF]; exact hk)⟩
  have hm:∀x,x∈ts↔_:=fun x=>Qcr (x:=x) (fun a ha=>(hr a ha).1.1) hts
  unfold rwI rwS
  rw[QgJ hts,QfY,QfY]
  constructor
  · intro h m hm'
    have ha:c.2.2[m]? =some c.2.2[m]:=aa hm'
    by_cases h1:c.2.2[m].1=(k:Int)
    · obtain ⟨i, hi⟩ := aT.1 ((hm (m : Int)).2 ⟨m, _, ha, h1, rfl⟩)
      have h2:=h i (ah.1 hi).1
      refine Zc ha fun g=> ?_
      rw[Yr hi (by simp) g.2] at h2
      cases h2
    · exact Zc ha fun g=>h1 g.1
  · intro h i hi
    have ht:ts[i]? =some ts[i]:=aa hi
    obtain ⟨j,a,ha,h1,h2⟩:=(hm _).1 (aj ht)
    have h3:=h j (ah.1 ha).1
    refine ZX ht (a:=a) (by rw[h2]; simpa using ha) ?_
    cases hb:VS c k s a with
    | false=>rfl
    | true=>rw[ZZ ha h1 hb] at h3; cases h3
theorem QfB (hr:∀a∈c.2.2,InR c.2.1.length a):decide (0 < ((Xg c (rwI c) c.2.1.length).length:Int))=decide (0 < ((Xg c (rwS c) c.2.1.length).length:Int)):=by
  have h:Xg c (rwI c) c.2.1.length=[]↔Xg c (rwS c) c.2.1.length=[]:=by
    unfold Xg XB
    simp only[QpA]
    constructor
    · intro h k hk s hs
      have:=h k hk s hs
      split at this
      · rename_i h1; rw[if_pos h1]; exact (QfM hr hk).1 this
      · rename_i h1; rw[if_neg h1]
    · intro h k hk s hs
      have:=h k hk s hs
      split at this
      · rename_i h1; rw[if_pos h1]; exact (QfM hr hk).2 this
      · rename_i h1; rw[if_neg h1]
  have e:∀l:List (Int×Int×Int),decide (0 < (l.length:Int))= !decide (l=[]):=fun l=>by cases l <;> simp
  rw[e,e]
  congr 1
  exact cA.2 h
end
def QdB (c:DSg):Bool:=c.2.2.any fun a=>decide (a.2.1= -1)
abbrev Qu:ByteArray:=⟨#[109,97,100,101]⟩
def QG (c:DSg):ByteArray:=if QdB c=true then ⟨#[104,105,100,100,101,110]⟩ else if 0 < ((VR c.2.2 c.2.2.length).length:Int) then ⟨#[116,119,111,32,119,97,121,115]⟩ else if 0 < ((Xg c (rwS c) c.2.1.length).length:Int) then ⟨#[98,114,101,97,107]⟩ else if 0 < ((Wy c).length:Int) then ⟨#[99,111,110,102,108,105,99,116]⟩ else Qu
section
variable {c:DSg}{as_:List DAr}{a:DAr}{i j k:Nat}{m s q:Int}{l:List Int}{p:List Int}
theorem Qq3 (h:QdB c=true):(⟨#[104,105,100,100,101,110]⟩:ByteArray)=QG c:=by unfold QG; rw[if_pos h]
theorem Qqt (h:QdB c=false)(h2:0 < ((VR c.2.2 c.2.2.length).length:Int)):(⟨#[116,119,111,32,119,97,121,115]⟩:ByteArray)=QG c:=by unfold QG; rw[if_neg (by rw[h]; decide),if_pos h2]
theorem QqF (h:QdB c=false)(h2:¬0 < ((VR c.2.2 c.2.2.length).length:Int))(h3:0 < ((Xg c (rwS c) c.2.1.length).length:Int)):(⟨#[98,114,101,97,107]⟩:ByteArray)=QG c:=by
  unfold QG; rw[if_neg (by rw[h]; decide),if_neg h2,if_pos h3]
theorem Qrt (h:QdB c=false)(h2:¬0 < ((VR c.2.2 c.2.2.length).length:Int))(h3:¬0 < ((Xg c (rwS c) c.2.1.length).length:Int))(h4:0 < ((Wy c).length:Int)):(⟨#[99,111,110,102,108,105,99,116]⟩:ByteArray)=QG c:=by
  unfold QG; rw[if_neg (by rw[h]; decide),if_neg h2,if_neg h3,if_pos h4]
theorem Qq8 (h:QdB c=false)(h2:¬0 < ((VR c.2.2 c.2.2.length).length:Int))(h3:¬0 < ((Xg c (rwS c) c.2.1.length).length:Int))(h4:¬0 < ((Wy c).length:Int)):Qu=QG c:=by
  unfold QG; rw[if_neg (by rw[h]; decide),if_neg h2,if_neg h3,if_neg h4]
theorem Qo2 (hr:∀a∈c.2.2,InR c.2.1.length a)(h:0 < ((Xg c (rwI c) c.2.1.length).length:Int)):0 < ((Xg c (rwS c) c.2.1.length).length:Int):=by
  have:=QfB hr; rw[aI h] at this; exact ab this.symm
theorem Qmx (hr:∀a∈c.2.2,InR c.2.1.length a)(h:¬0 < ((Xg c (rwI c) c.2.1.length).length:Int)):¬0 < ((Xg c (rwS c) c.2.1.length).length:Int):=by
  have:=QfB hr; rw[aF h] at this; exact ae this.symm
theorem Qoe (hx:c.2.2[k]? =some a)(h:a.2.1 < 0)(hl: -1≤a.2.1):true=QdB c:=(bC.2 ⟨a,aj hx,aI (by omega)⟩).symm
theorem QpX (hn:∀j,j < k→∀a,c.2.2[j]? =some a→¬a.2.1 < 0)(hk:c.2.2.length≤k):false=QdB c:=(cn.2 fun a ha=>by
  obtain ⟨j,hj⟩:=aT.1 ha
  have h1:=(ah.1 hj).1
  have h2:=hn j (by omega) a hj
  simp only[aS]
  omega).symm
theorem QgF {n:Int}{l:Int×Bool}(h:Vt n l): -1≤l.1:=by
  rcases h with h | h <;> omega
theorem Qb2 (hs:∀a∈as_, -1≤a.2.1)(hx:as_[k]? =some a): -1≤a.2.1:=hs a (aj hx)
theorem Qmm {β:Type}{B:List β}{f:Nat→Option β}{y:β}{out:List β}(h:0≤m)(e:out=B++rg f m.toNat)(hf:f m.toNat=some y):out++[y]=B++rg f (m+1).toNat:=by
  rw[show (m+1).toNat=m.toNat+1 by omega,e]; exact ZB hf
theorem Ho {β:Type}{B:List β}{f:Nat→Option β}{out:List β}(h:0≤m)(e:out=B++rg f m.toNat)(hf:f m.toNat=none):out=B++rg f (m+1).toNat:=by
  rw[show (m+1).toNat=m.toNat+1 by omega,e,Q0 hf]
theorem QmF (h1:m≤(as_.length:Int))(h2:¬m < (as_.length:Int)):VR as_ i++rg (HT as_ i) m.toNat=VR as_ (i+1):=by
  rw[show m.toNat=as_.length by omega]; exact UD
theorem QlL {b:DAr}(h0m:0≤m)(ha:as_[i]? =some a)(hb:as_[m.toNat]? =some b)(h:(i:Int) < m)(h0:0≤a.2.1)(h1:b.1=a.1)(h2:b.2.1=a.2.1)(h3:¬b.2.2.2=a.2.2.2):HT as_ i m.toNat=some [(i:Int),m]:=by
  rw[QlA ha hb (by omega) h0 h1 h2 h3,show ((m.toNat:Nat):Int)=m by omega]
theorem QcD (hk:k < c.1.length)(h:QE c (k:Int)=false):QQ c.1 k++[(k:Int)]=QQ c.1 (k+1):=by
  have hx:c.1[k]? =some c.1[k]:=aa hk
  refine J6 hx fun g=> ?_
  rw[← Kh (c:=c) (sig:=(k:Int)) (x:=c.1[k]) (by omega) (by simp),aI g] at h
  cases h
theorem QeM (hk:k < c.1.length)(h:QE c (k:Int)=true):QQ c.1 k=QQ c.1 (k+1):=by
  have hx:c.1[k]? =some c.1[k]:=aa hk
  refine QbZ hx ?_
  rw[← Kh (c:=c) (sig:=(k:Int)) (x:=c.1[k]) (by omega) (by simp)] at h
  exact ab h
theorem Qkz {α:Type}{l:List α}{f:α→Bool}{x:α}(hx:l[k]? =some x)(h:(l.take k).any f=true):true=(l.take (k+1)).any f:=by rw[Qs hx,List.any_append,h]; rfl
theorem QkP {α:Type}{l:List α}{f:α→Bool}{x:α}(hx:l[k]? =some x)(h:(l.take k).any f=false):f x=(l.take (k+1)).any f:=by rw[Qs hx,List.any_append,h]; simp
theorem Qiq {α:Type}{l:List α}{f:α→Bool}{x:α}(hx:l[k]? =some x)(h:f x=true):(l.take k).filter f++[x]=(l.take (k+1)).filter f:=by rw[Qs hx,bO]; simp[h]
theorem Qml {α:Type}{l:List α}{f:α→Bool}{x:α}(hx:l[k]? =some x)(h:f x=false):(l.take k).filter f=(l.take (k+1)).filter f:=by rw[Qs hx,bO]; simp[h]
def Qkh (c:DSg)(p:List Int):Bool:=Qna c (mAt p 0).toNat (mAt p 1).toNat
theorem Qja (h:p=[(i:Int),(j:Int)]):Qkh c p=Qna c i j:=by subst h; rfl
theorem Jp {b:Bool}(h:p=[(i:Int),(j:Int)])(hk:(QQ c.1 c.1.length).length≤k)(h2:((QQ c.1 c.1.length).take k).any (fun s=> !(QH c (i:Int) s==QH c (j:Int) s))=b):Qkh c p=b:=by
  rw[QO hk] at h2
  rw[Qja h]; exact h2
theorem ieF {p:Prop}[Decidable p]{b:Bool}(h:¬p):false=(decide p&&b):=by rw[aF h]; rfl
theorem ieT {p:Prop}[Decidable p]{b:Bool}(h:p):b=(decide p&&b):=by rw[aI h]; rfl
theorem QmA:(ZI c (fun _ _=>true) c.2.1.length).filter (Qkh c)=Wy c:=by
  rw[Hj]
  exact QbH fun i j _ _=>by rw[Qja rfl]; simp
theorem Qoa (h:(ZI c (fun _ _=>true) c.2.1.length)[k]? =some p):∃i j:Nat,p=[(i:Int),(j:Int)]:=by
  have h:=aj h
  unfold ZI at h
  obtain ⟨i,hi,h⟩:=List.mem_flatMap.1 h
  obtain ⟨j,h1,h2,rfl⟩:=QfF h
  exact ⟨i,j,rfl⟩
end
theorem UQ (a:Int×Int×Bool×Int)(q:Int)(sig:Int):FC Tryz.prog 284 [(true,[dI a.1,dI a.2.1,dB a.2.2.1,dI a.2.2.2]),(false,[.ptr 0 0]),(false,[.ptr 1 0])] [bx 0 3 [dI q],bx 1 3 [dI sig]] 2 (Is (lB (decide (a.1=q∧a.2.1=sig))) [bx 0 3 [dI q],bx 1 3 [dI sig]]):=by
 refine Qn Tryz.func284 rfl rfl Tryz.ntmps284 fun O_ hO w0_ N0_ X_ h0_ f0_=> ?_
 refine acG 0 0 fun hi1=> ?_
 refine acG 0 1 fun hi2=> ?_
 refine acG 0 3 fun hi3=> ?_
 refine w_ ?_
 refine xbx 2 ?_
 iterate 6 refine w_ ?_
 refine alI 7 fun hi4=> ?_
 iterate 2 refine w_ ?_
 cases hb5:(decide (a.1=q))
 ·have hb5':=ae hb5
  iterate 7 refine w_ ?_
  refine Qb ?_
  have e6:(false:Bool)=(decide (a.1=q∧a.2.1=sig)):=by
   (simp_all; done)
  exact fi_ [] hO ⟨rfl,rfl,trivial⟩ (h0:=(congrArg (fun z_=>lB z_) e6))
 ·have hb5':=ab hb5
  iterate 7 refine w_ ?_
  refine Qb ?_
  have e7:(decide (a.2.1=sig):Bool)=(decide (a.1=q∧a.2.1=sig)):=by
   (simp_all; done)
  exact fi_ [] hO ⟨rfl,rfl,trivial⟩ (h0:=(congrArg (fun z_=>lB z_) e7))
theorem VW (l:List (Int×Int×Bool×Int))(q:Int)(sig:Int):FC Tryz.prog 313 [(false,[.dat (.sl 46 (.pr .int (.pr .int (.pr .bool .int)))) l]),(false,[.clo 284 [0,1]])] [bx 0 3 [dI q],bx 1 3 [dI sig]] 2 (Is (lI (Zp (fun a:DAr=>decide (a.1=q∧a.2.1=sig)) l)) [bx 0 3 [dI q],bx 1 3 [dI sig]]):=by
 refine Qn Tryz.func313 rfl rfl Tryz.ntmps313 fun O_ hO w0_ N0_ X_ h0_ f0_=> ?_
 iterate 6 refine w_ ?_
 refine alL 6 fun hl1=> ?_
 iterate 4 refine w_ ?_
 refine lpK l.length (fun k=>NoneTo (fun a:DAr=>decide (a.1=q∧a.2.1=sig)) l k) (fun k=>⟨[(0,lf (.dat (.sl 46 (.pr .int (.pr .int (.pr .bool .int)))) l)),(1,lf (.clo 284 [0,1])),(7,lI (l.length:Int)),(8,lI (k:Int))],[bx 0 3 [dI q],bx 1 3 [dI sig]]⟩) (NoneTo.zero) ?_ fun k hk2 hno=> ?_
 · exact Wk.of [] rfl ⟨rfl,rfl,rfl,rfl,trivial⟩ ⟨rfl,rfl,trivial⟩ rfl rfl
 iterate 4 refine w_ ?_
 cases hb3:(decide ((k:Int) < (l.length:Int)))
 ·have hb3':=ae hb3
  refine w_ ?_
  refine Qh ?_
  refine (?_:AC _ _ _ _ _)
  iterate 3 refine w_ ?_
  refine Qb ?_
  have e4:((-1):Int)=(Zp (fun a:DAr=>decide (a.1=q∧a.2.1=sig)) l):=by
   first | exact (hno.no (by omega)).symm
  exact fi_ [] hO ⟨rfl,rfl,trivial⟩ (h0:=(congrArg (fun z_=>lI z_) e4))
 ·have hb3':=ab hb3
  iterate 12 refine w_ ?_
  obtain ⟨x5,hx6⟩:∃z,l[k]? =some z:=⟨_,aa (by omega)⟩
  iterate 2 refine w_ ?_
  refine lc (Yd (args0:=[(true,[dI x5.1,dI x5.2.1,dB x5.2.2.1,dI x5.2.2.2])]) (caps:=[0,1]) 2 [(0,0),(1,1)] (UQ x5 q sig) Qh2 rfl (Qa rfl) rfl rfl ⟨_,_,rfl,(Ql rfl),rfl⟩ ⟨rfl,rfl,trivial⟩ rfl ⟨trivial,trivial,trivial⟩ (nlr rfl)) ?_
  refine w_ ?_
  cases hb7:(decide (x5.1=q∧x5.2.1=sig))
  ·have hb7':=ae hb7
   refine w_ ?_
   refine AC.skip ?_
   refine (?_:AC _ _ _ _ _)
   iterate 3 refine w_ ?_
   refine Qc ?_
   refine lK_ (hno.step hx6 (by assumption)) ?_
   exact Wk.of [] rfl ⟨rfl,rfl,rfl,rfl,trivial⟩ ⟨rfl,rfl,trivial⟩ rfl rfl
  ·have hb7':=ab hb7
   iterate 5 refine w_ ?_
   refine Qb ?_
   have e8:((k:Int):Int)=(Zp (fun a:DAr=>decide (a.1=q∧a.2.1=sig)) l):=by
    exact (hno.at hx6 (by assumption)).symm
   exact fi_ [] hO ⟨rfl,rfl,trivial⟩ (h0:=(congrArg (fun z_=>lI z_) e8))
theorem WW (l:List (Int×Int×Bool×Int))(q:Int)(sig:Int):FC Tryz.prog 203 [(false,[.dat (.sl 46 (.pr .int (.pr .int (.pr .bool .int)))) l]),(false,[.clo 284 [0,1]])] [bx 0 3 [dI q],bx 1 3 [dI sig]] 2 (Is (lB (l.any (fun a:DAr=>decide (a.1=q∧a.2.1=sig)))) [bx 0 3 [dI q],bx 1 3 [dI sig]]):=by
 refine Qn Tryz.func203 rfl rfl Tryz.ntmps203 fun O_ hO w0_ N0_ X_ h0_ f0_=> ?_
 iterate 6 refine w_ ?_
 refine lc (dP 2 [] (VW l q sig) Qca) ?_
 iterate 3 refine w_ ?_
 refine Qb ?_
 have e1:(decide (0≤(Zp (fun a:DAr=>decide (a.1=q∧a.2.1=sig)) l)):Bool)=(l.any (fun a:DAr=>decide (a.1=q∧a.2.1=sig))):=by
  exact Um _ _
 exact fi_ [] hO ⟨rfl,rfl,trivial⟩ (h0:=(congrArg (fun z_=>lB z_) e1))
theorem WE (c:(List (ByteArray×Int))×List ByteArray×(List (Int×Int×Bool×Int)))(q:Int)(sig:Int):FC Tryz.prog 162 [(true,[.dat (.sl 44 (.pr .str .int)) c.1, .dat (.sl 9 .str) c.2.1, .dat (.sl 46 (.pr .int (.pr .int (.pr .bool .int)))) c.2.2]),(false,[dI q]),(false,[dI sig])] [] 0 (QY (lB (QH c q sig))):=by
 refine Qn Tryz.func162 rfl rfl Tryz.ntmps162 fun O_ hO w0_ N0_ X_ h0_ f0_=> ?_
 refine acI 1 fun hi1=> ?_
 refine acI 2 fun hi2=> ?_
 refine w_ ?_
 refine xbx 0 ?_
 refine xbx 1 ?_
 refine xbx 2 ?_
 iterate 5 refine w_ ?_
 refine lc (YP ⟨_,_,rfl,(Qa rfl),rfl,⟨_,_,rfl,(Qa rfl),rfl,rfl⟩⟩ rfl) ?_
 refine lc (dP 3 [(0,1),(1,2)] (WW c.2.2 q sig) Qbv) ?_
 iterate 2 refine w_ ?_
 refine Qb<|fqB hO ?_
 rfl
theorem Xc (c:(List (ByteArray×Int))×List ByteArray×(List (Int×Int×Bool×Int)))(q:Int)(sig:Int)[∀c,Decidable (SgOk c)]:FC Tryz.prog 55 [(true,[.dat (.sl 44 (.pr .str .int)) c.1, .dat (.sl 9 .str) c.2.1, .dat (.sl 46 (.pr .int (.pr .int (.pr .bool .int)))) c.2.2]),(false,[dI q]),(false,[dI sig])] [] 0 (QY (PV.tup [(false,[dB (decide (SgOk c∧(0≤q∧q≤(c.2.1.length:Int) - 1)∧(0≤sig∧sig≤(c.1.length:Int) - 1))&&QH c q sig)]),(false,[dB (decide (SgOk c∧(0≤q∧q≤(c.2.1.length:Int) - 1)∧(0≤sig∧sig≤(c.1.length:Int) - 1)))])])):=by
 refine Qn Tryz.func55 rfl rfl Tryz.ntmps55 fun O_ hO w0_ N0_ X_ h0_ f0_=> ?_
 refine acI 1 fun hi1=> ?_
 refine acI 2 fun hi2=> ?_
 refine w_ ?_
 refine xbx 0 ?_
 iterate 6 refine w_ ?_
 refine lc (dK (YH c) QaT) ?_
 iterate 2 refine w_ ?_
 cases hb3:(decide (SgOk c))
 ·have hb3':=ae hb3
  iterate 23 refine w_ ?_
  refine Qb ?_
  have e4:(false:Bool)=(decide (SgOk c∧(0≤q∧q≤(c.2.1.length:Int) - 1)∧(0≤sig∧sig≤(c.1.length:Int) - 1))&&QH c q sig):=by
   exact ieF (fun g=>absurd g.1 (by assumption))
  have e5:(false:Bool)=(decide (SgOk c∧(0≤q∧q≤(c.2.1.length:Int) - 1)∧(0≤sig∧sig≤(c.1.length:Int) - 1))):=by
   exact (aF (fun g=>absurd g.1 (by assumption))).symm
  exact fr_ hO (e:=((congrArg (fun z_=>PV.tup [(false,[dB z_]),(false,[dB false])]) e4)).trans (congrArg (fun z_=>PV.tup [(false,[dB (decide (SgOk c∧(0≤q∧q≤(c.2.1.length:Int) - 1)∧(0≤sig∧sig≤(c.1.length:Int) - 1))&&QH c q sig)]),(false,[dB z_])]) e5))
 ·have hb3':=ab hb3
  iterate 3 refine w_ ?_
  refine alL 14 fun hl6=> ?_
  iterate 2 refine w_ ?_
  refine lgy rfl rfl (dK (QU q 0 ((c.2.1.length:Int) - 1)) Zr) ?_
  iterate 3 refine w_ ?_
  cases hb7:(decide (0≤q∧q≤((c.2.1.length:Int) - 1)))
  ·have hb7':=ae hb7
   iterate 14 refine w_ ?_
   refine Qb ?_
   have e8:(false:Bool)=(decide (SgOk c∧(0≤q∧q≤(c.2.1.length:Int) - 1)∧(0≤sig∧sig≤(c.1.length:Int) - 1))&&QH c q sig):=by
    exact ieF (fun g=>absurd g.2.1 (by assumption))
   have e9:(false:Bool)=(decide (SgOk c∧(0≤q∧q≤(c.2.1.length:Int) - 1)∧(0≤sig∧sig≤(c.1.length:Int) - 1))):=by
    exact (aF (fun g=>absurd g.2.1 (by assumption))).symm
   exact fr_ hO (e:=((congrArg (fun z_=>PV.tup [(false,[dB z_]),(false,[dB false])]) e8)).trans (congrArg (fun z_=>PV.tup [(false,[dB (decide (SgOk c∧(0≤q∧q≤(c.2.1.length:Int) - 1)∧(0≤sig∧sig≤(c.1.length:Int) - 1))&&QH c q sig)]),(false,[dB z_])]) e9))
  ·have hb7':=ab hb7
   iterate 3 refine w_ ?_
   refine alL 23 fun hl10=> ?_
   iterate 2 refine w_ ?_
   refine lgy rfl rfl (dK (QU sig 0 ((c.1.length:Int) - 1)) Zr) ?_
   iterate 3 refine w_ ?_
   cases hb11:(decide (0≤sig∧sig≤((c.1.length:Int) - 1)))
   ·have hb11':=ae hb11
    iterate 5 refine w_ ?_
    refine Qb ?_
    have e12:(false:Bool)=(decide (SgOk c∧(0≤q∧q≤(c.2.1.length:Int) - 1)∧(0≤sig∧sig≤(c.1.length:Int) - 1))&&QH c q sig):=by
     exact ieF (fun g=>absurd g.2.2 (by assumption))
    have e13:(false:Bool)=(decide (SgOk c∧(0≤q∧q≤(c.2.1.length:Int) - 1)∧(0≤sig∧sig≤(c.1.length:Int) - 1))):=by
     exact (aF (fun g=>absurd g.2.2 (by assumption))).symm
    exact fr_ hO (e:=((congrArg (fun z_=>PV.tup [(false,[dB z_]),(false,[dB false])]) e12)).trans (congrArg (fun z_=>PV.tup [(false,[dB (decide (SgOk c∧(0≤q∧q≤(c.2.1.length:Int) - 1)∧(0≤sig∧sig≤(c.1.length:Int) - 1))&&QH c q sig)]),(false,[dB z_])]) e13))
   ·have hb11':=ab hb11
    iterate 6 refine w_ ?_
    refine lc (dK (WE c q sig) QbS) ?_
    iterate 3 refine w_ ?_
    refine Qb ?_
    have e14:(QH c q sig:Bool)=(decide (SgOk c∧(0≤q∧q≤(c.2.1.length:Int) - 1)∧(0≤sig∧sig≤(c.1.length:Int) - 1))&&QH c q sig):=by
     exact ieT ⟨by assumption,by assumption,by assumption⟩
    have e15:(true:Bool)=(decide (SgOk c∧(0≤q∧q≤(c.2.1.length:Int) - 1)∧(0≤sig∧sig≤(c.1.length:Int) - 1))):=by
     exact (aI ⟨by assumption,by assumption,by assumption⟩).symm
    exact fr_ hO (e:=((congrArg (fun z_=>PV.tup [(false,[dB z_]),(false,[dB true])]) e14)).trans (congrArg (fun z_=>PV.tup [(false,[dB (decide (SgOk c∧(0≤q∧q≤(c.2.1.length:Int) - 1)∧(0≤sig∧sig≤(c.1.length:Int) - 1))&&QH c q sig)]),(false,[dB z_])]) e15))
theorem Hy (c:(List (ByteArray×Int))×List ByteArray×(List (Int×Int×Bool×Int)))(hn:c.2.2.length≤4000)(hs:∀a∈c.2.2, -1≤a.2.1):FC Tryz.prog 481 [(true,[.dat (.sl 44 (.pr .str .int)) c.1, .dat (.sl 9 .str) c.2.1, .dat (.sl 46 (.pr .int (.pr .int (.pr .bool .int)))) c.2.2])] [] 0 (Yo 32 (.sl 3 .int) (VR c.2.2 c.2.2.length)):=by
 refine Qn Tryz.func481 rfl rfl Tryz.ntmps481 fun O_ hO w0_ N0_ X_ h0_ f0_=> ?_
 refine w_ ?_
 refine xbx 0 ?_
 iterate 3 refine w_ ?_
 refine lc (dBs 1 (e:=(.sl 3 .int)) YW) ?_
 iterate 6 refine w_ ?_
 refine alL 10 fun hl1=> ?_
 iterate 4 refine w_ ?_
 refine lp0 c.2.2.length (fun i=>⟨[(1,lP 0 0),(2,lf (.val (.slice none 0 0))),(3,lR 2),(10,lf (.dat (.sl 46 (.pr .int (.pr .int (.pr .bool .int)))) c.2.2)),(11,lI (c.2.2.length:Int)),(12,lI (i:Int))],[bx 0 27 [.dat (.sl 44 (.pr .str .int)) c.1, .dat (.sl 9 .str) c.2.1, .dat (.sl 46 (.pr .int (.pr .int (.pr .bool .int)))) c.2.2],ar 2 32 (.sl 3 .int) (VR c.2.2 i)]⟩) ?_ fun i hk2=> ?_
 · exact Wk.of [(2,1)] rfl ⟨rfl,rfl,rfl,rfl,rfl,rfl,trivial⟩ ⟨rfl,(Qj (rfl)),trivial⟩ rfl rfl
 have hwf:=Qiz (i:=i) hn
 iterate 4 refine w_ ?_
 cases hb3:(decide ((i:Int) < (c.2.2.length:Int)))
 ·have hb3':=ae hb3
  refine w_ ?_
  refine Qh ?_
  refine (?_:AC _ _ _ _ _)
  iterate 4 refine w_ ?_
  refine Qb<|fo_ hO ?_
  (congr 1; omega)
 ·have hb3':=ab hb3
  iterate 6 refine w_ ?_
  obtain ⟨ai,hx5⟩:∃z,c.2.2[i]? =some z:=⟨_,aa (by omega)⟩
  have hai:=hx5
  have hmai:=Qb2 hs hx5
  iterate 2 refine w_ ?_
  refine lc (xal 3 (.pr .int (.pr .int (.pr .bool .int))) ZJ) ?_
  iterate 9 refine w_ ?_
  refine QK (fun m_ s_=>∃(m:Int) (out:List (List Int)),m_=((c.2.2.length:Int) - m).toNat∧((i:Int)+1≤m∧m≤(c.2.2.length:Int))∧(out=VR c.2.2 i++rg (HT c.2.2 i) m.toNat)∧s_=⟨[(1,lP 0 0),(2,lf (.val (.slice none 0 0))),(3,lR 4),(4,lI (i:Int)),(5,lP 3 0),(6,lI m),(10,lf (.dat (.sl 46 (.pr .int (.pr .int (.pr .bool .int)))) c.2.2)),(11,lI (c.2.2.length:Int)),(12,lI (i:Int)),(13,lB true),(14,lI (i:Int)),(15,lf (.elt (.pr .int (.pr .int (.pr .bool .int))) ai 0)),(16,ag [dI ai.1,dI ai.2.1,dB ai.2.2.1,dI ai.2.2.2]),(17,lI (i:Int)),(18,lI ((i:Int)+1))],[bx 0 27 [.dat (.sl 44 (.pr .str .int)) c.1, .dat (.sl 9 .str) c.2.1, .dat (.sl 46 (.pr .int (.pr .int (.pr .bool .int)))) c.2.2],bx 3 46 [dI ai.1,dI ai.2.1,dB ai.2.2.1,dI ai.2.2.2],ar 4 32 (.sl 3 .int) out]⟩) ⟨(i:Int)+1,VR c.2.2 i,rfl,(by omega),(by rw[show ((i:Int)+1).toNat=i+1 by omega,Qcu,bn]),rfl⟩ ?_ ?_
  · exact Wk.of [(4,2)] rfl ⟨rfl,rfl,rfl,rfl,rfl,rfl,rfl,rfl,rfl,rfl,rfl,rfl,rfl,rfl,rfl,trivial⟩ ⟨rfl,rfl,(Qj (by first | rfl | simp)),trivial⟩ rfl rfl
  rintro m_ s_ ⟨m,out,hm7,hm,hO1,rfl⟩
  have hol:out.length≤17000000:=by rw[hO1,ao]; have:=WL (f:=HT c.2.2 i) (m:=m.toNat); have:=hwf (by omega); omega
  iterate 5 refine w_ ?_
  refine alL 21 fun hl8=> ?_
  iterate 3 refine w_ ?_
  cases hb9:(decide (m < (c.2.2.length:Int)))
  ·have hb9':=ae hb9
   refine w_ ?_
   refine Qh ?_
   refine (?_:AC _ _ _ _ _)
   iterate 3 refine w_ ?_
   refine Qc ?_
   refine l0_ ?_
   exact Wk.of [(2,4)] rfl ⟨rfl,rfl,rfl,rfl,rfl,rfl,trivial⟩ ⟨rfl,(Qj ((by rw[hO1]; exact QmF (by omega) (by omega)))),trivial⟩ rfl rfl
  ·have hb9':=ab hb9
   iterate 8 refine w_ ?_
   obtain ⟨am,hx11⟩:∃z,c.2.2[(m).toNat]? =some z:=⟨_,aa (by omega)⟩
   have ham:=hx11
   have hmam:=Qb2 hs hx11
   iterate 2 refine w_ ?_
   refine lc (xal 5 (.pr .int (.pr .int (.pr .bool .int))) ZJ) ?_
   iterate 5 refine w_ ?_
   refine alI 32 fun hi12=> ?_
   iterate 2 refine w_ ?_
   cases hb13:(!decide (ai.2.1=(-1)))
   ·have hb13':(ai.2.1=(-1)):=QV hb13
    iterate 22 refine w_ ?_
    refine AC.skip ?_
    refine (?_:AC _ _ _ _ _)
    iterate 4 refine w_ ?_
    refine Qc<|Zq ⟨(m+1),out,rfl,(by omega),(by exact Ho (by omega) hO1 (WB hai ham (by omega))),rfl⟩ (by omega) ?_
    exact Wk.of [] rfl ⟨rfl,rfl,rfl,rfl,rfl,rfl,rfl,rfl,rfl,rfl,rfl,rfl,rfl,rfl,rfl,trivial⟩ ⟨rfl,rfl,rfl,trivial⟩ rfl rfl
   ·have hb13':¬(ai.2.1=(-1)):=Za hb13
    iterate 7 refine w_ ?_
    cases hb14:(decide (am.1=ai.1))
    ·have hb14':=ae hb14
     iterate 15 refine w_ ?_
     refine AC.skip ?_
     refine (?_:AC _ _ _ _ _)
     iterate 4 refine w_ ?_
     refine Qc<|Zq ⟨(m+1),out,rfl,(by omega),(by exact Ho (by omega) hO1 (WB hai ham (by omega))),rfl⟩ (by omega) ?_
     exact Wk.of [] rfl ⟨rfl,rfl,rfl,rfl,rfl,rfl,rfl,rfl,rfl,rfl,rfl,rfl,rfl,rfl,rfl,trivial⟩ ⟨rfl,rfl,rfl,trivial⟩ rfl rfl
    ·have hb14':=ab hb14
     iterate 7 refine w_ ?_
     cases hb15:(decide (am.2.1=ai.2.1))
     ·have hb15':=ae hb15
      iterate 8 refine w_ ?_
      refine AC.skip ?_
      refine (?_:AC _ _ _ _ _)
      iterate 4 refine w_ ?_
      refine Qc<|Zq ⟨(m+1),out,rfl,(by omega),(by exact Ho (by omega) hO1 (WB hai ham (by omega))),rfl⟩ (by omega) ?_
      exact Wk.of [] rfl ⟨rfl,rfl,rfl,rfl,rfl,rfl,rfl,rfl,rfl,rfl,rfl,rfl,rfl,rfl,rfl,trivial⟩ ⟨rfl,rfl,rfl,trivial⟩ rfl rfl
     ·have hb15':=ab hb15
      iterate 7 refine w_ ?_
      cases hb16:(!decide (am.2.2.2=ai.2.2.2))
      ·have hb16':(am.2.2.2=ai.2.2.2):=QV hb16
       refine w_ ?_
       refine AC.skip ?_
       refine (?_:AC _ _ _ _ _)
       iterate 4 refine w_ ?_
       refine Qc<|Zq ⟨(m+1),out,rfl,(by omega),(by exact Ho (by omega) hO1 (WB hai ham (by omega))),rfl⟩ (by omega) ?_
       exact Wk.of [] rfl ⟨rfl,rfl,rfl,rfl,rfl,rfl,rfl,rfl,rfl,rfl,rfl,rfl,rfl,rfl,rfl,trivial⟩ ⟨rfl,rfl,rfl,trivial⟩ rfl rfl
      ·have hb16':¬(am.2.2.2=ai.2.2.2):=Za hb16
       iterate 5 refine w_ ?_
       refine lc (dBs 6 (e:= .int) ZL) ?_
       refine lc (dBs 7 (e:=(.sl 3 .int)) YW (hab:=by exact ⟨_,_,_,_,rfl,(.inl ⟨_,rfl,rfl,rfl⟩),⟨rfl,rfl⟩,rfl⟩)) ?_
       refine lc (dA 8 Kg) ?_
       refine w_ ?_
       refine Qc ?_
       refine (?_:AC _ _ _ _ _)
       iterate 4 refine w_ ?_
       refine Qc<|Zq ⟨(m+1),(out++([[(i:Int),m]])),rfl,(by omega),(by exact Qmm (by omega) hO1 (QlL (by omega) hai ham (by omega) (by omega) (by omega) (by omega) (by omega))),rfl⟩ (by omega) ?_
       exact Wk.of [(4,8)] rfl ⟨rfl,rfl,rfl,rfl,rfl,rfl,rfl,rfl,rfl,rfl,rfl,rfl,rfl,rfl,rfl,trivial⟩ ⟨rfl,rfl,(Qj (by first | rfl | simp)),trivial⟩ rfl rfl
theorem Qbt (c:(List (ByteArray×Int))×List ByteArray×(List (Int×Int×Bool×Int)))(hn:c.2.2.length≤4000)(hs:∀a∈c.2.2, -1≤a.2.1):FC Tryz.prog 377 [(true,[.dat (.sl 44 (.pr .str .int)) c.1, .dat (.sl 9 .str) c.2.1, .dat (.sl 46 (.pr .int (.pr .int (.pr .bool .int)))) c.2.2])] [] 0 (Yo 32 (.sl 3 .int) (VR c.2.2 c.2.2.length)):=by
 refine Qn Tryz.func377 rfl rfl Tryz.ntmps377 fun O_ hO w0_ N0_ X_ h0_ f0_=> ?_
 refine w_ ?_
 refine xbx 0 ?_
 iterate 9 refine w_ ?_
 refine alL 9 fun hl1=> ?_
 iterate 4 refine w_ ?_
 refine AC.wk (Wk.nilS 1 3 32 (.sl 3 .int) rfl (Fresh.of rfl) (nlr rfl)) ?_
 refine lp0 c.2.2.length (fun i=>⟨[(1,lP 0 0),(2,lf (.val (.slice none 0 0))),(3,lR 2),(9,lf (.dat (.sl 46 (.pr .int (.pr .int (.pr .bool .int)))) c.2.2)),(10,lI (c.2.2.length:Int)),(11,lI (i:Int))],[bx 0 27 [.dat (.sl 44 (.pr .str .int)) c.1, .dat (.sl 9 .str) c.2.1, .dat (.sl 46 (.pr .int (.pr .int (.pr .bool .int)))) c.2.2],ar 2 32 (.sl 3 .int) (VR c.2.2 i)]⟩) ?_ fun i hk2=> ?_
 · exact Wk.of [(2,1)] rfl ⟨rfl,rfl,rfl,rfl,rfl,rfl,trivial⟩ ⟨rfl,(Qj (rfl)),trivial⟩ rfl rfl
 have hwf:=Qiz (i:=i) hn
 iterate 4 refine w_ ?_
 cases hb3:(decide ((i:Int) < (c.2.2.length:Int)))
 ·have hb3':=ae hb3
  refine w_ ?_
  refine Qh ?_
  refine (?_:AC _ _ _ _ _)
  iterate 4 refine w_ ?_
  refine Qb<|fo_ hO ?_
  (congr 1; omega)
 ·have hb3':=ab hb3
  iterate 6 refine w_ ?_
  obtain ⟨ai,hx5⟩:∃z,c.2.2[i]? =some z:=⟨_,aa (by omega)⟩
  have hai:=hx5
  have hmai:=Qb2 hs hx5
  iterate 2 refine w_ ?_
  refine lc (xal 3 (.pr .int (.pr .int (.pr .bool .int))) ZJ) ?_
  iterate 9 refine w_ ?_
  refine QK (fun m_ s_=>∃(m:Int) (out:List (List Int)),m_=((c.2.2.length:Int) - m).toNat∧((i:Int)+1≤m∧m≤(c.2.2.length:Int))∧(out=VR c.2.2 i++rg (HT c.2.2 i) m.toNat)∧s_=⟨[(1,lP 0 0),(2,lf (.val (.slice none 0 0))),(3,lR 4),(4,lI (i:Int)),(5,lP 3 0),(6,lI m),(9,lf (.dat (.sl 46 (.pr .int (.pr .int (.pr .bool .int)))) c.2.2)),(10,lI (c.2.2.length:Int)),(11,lI (i:Int)),(12,lB true),(13,lI (i:Int)),(14,lf (.elt (.pr .int (.pr .int (.pr .bool .int))) ai 0)),(15,ag [dI ai.1,dI ai.2.1,dB ai.2.2.1,dI ai.2.2.2]),(16,lI (i:Int)),(17,lI ((i:Int)+1))],[bx 0 27 [.dat (.sl 44 (.pr .str .int)) c.1, .dat (.sl 9 .str) c.2.1, .dat (.sl 46 (.pr .int (.pr .int (.pr .bool .int)))) c.2.2],bx 3 46 [dI ai.1,dI ai.2.1,dB ai.2.2.1,dI ai.2.2.2],ar 4 32 (.sl 3 .int) out]⟩) ⟨(i:Int)+1,VR c.2.2 i,rfl,(by omega),(by rw[show ((i:Int)+1).toNat=i+1 by omega,Qcu,bn]),rfl⟩ ?_ ?_
  · exact Wk.of [(4,2)] rfl ⟨rfl,rfl,rfl,rfl,rfl,rfl,rfl,rfl,rfl,rfl,rfl,rfl,rfl,rfl,rfl,trivial⟩ ⟨rfl,rfl,(Qj (by first | rfl | simp)),trivial⟩ rfl rfl
  rintro m_ s_ ⟨m,out,hm7,hm,hO1,rfl⟩
  have hol:out.length≤17000000:=by rw[hO1,ao]; have:=WL (f:=HT c.2.2 i) (m:=m.toNat); have:=hwf (by omega); omega
  iterate 5 refine w_ ?_
  refine alL 20 fun hl8=> ?_
  iterate 3 refine w_ ?_
  cases hb9:(decide (m < (c.2.2.length:Int)))
  ·have hb9':=ae hb9
   refine w_ ?_
   refine Qh ?_
   refine (?_:AC _ _ _ _ _)
   iterate 3 refine w_ ?_
   refine Qc ?_
   refine l0_ ?_
   exact Wk.of [(2,4)] rfl ⟨rfl,rfl,rfl,rfl,rfl,rfl,trivial⟩ ⟨rfl,(Qj ((by rw[hO1]; exact QmF (by omega) (by omega)))),trivial⟩ rfl rfl
  ·have hb9':=ab hb9
   iterate 8 refine w_ ?_
   obtain ⟨am,hx11⟩:∃z,c.2.2[(m).toNat]? =some z:=⟨_,aa (by omega)⟩
   have ham:=hx11
   have hmam:=Qb2 hs hx11
   iterate 2 refine w_ ?_
   refine lc (xal 5 (.pr .int (.pr .int (.pr .bool .int))) ZJ) ?_
   iterate 5 refine w_ ?_
   refine alI 31 fun hi12=> ?_
   iterate 2 refine w_ ?_
   refine alI 33 fun hi13=> ?_
   iterate 2 refine w_ ?_
   cases hb14:(decide (ai.1=am.1))
   ·have hb14':=ae hb14
    iterate 20 refine w_ ?_
    refine AC.skip ?_
    refine (?_:AC _ _ _ _ _)
    iterate 4 refine w_ ?_
    refine Qc<|Zq ⟨(m+1),out,rfl,(by omega),(by exact Ho (by omega) hO1 (WB hai ham (by omega))),rfl⟩ (by omega) ?_
    exact Wk.of [] rfl ⟨rfl,rfl,rfl,rfl,rfl,rfl,rfl,rfl,rfl,rfl,rfl,rfl,rfl,rfl,rfl,trivial⟩ ⟨rfl,rfl,rfl,trivial⟩ rfl rfl
   ·have hb14':=ab hb14
    iterate 7 refine w_ ?_
    cases hb15:(decide (ai.2.1=am.2.1))
    ·have hb15':=ae hb15
     iterate 13 refine w_ ?_
     refine AC.skip ?_
     refine (?_:AC _ _ _ _ _)
     iterate 4 refine w_ ?_
     refine Qc<|Zq ⟨(m+1),out,rfl,(by omega),(by exact Ho (by omega) hO1 (WB hai ham (by omega))),rfl⟩ (by omega) ?_
     exact Wk.of [] rfl ⟨rfl,rfl,rfl,rfl,rfl,rfl,rfl,rfl,rfl,rfl,rfl,rfl,rfl,rfl,rfl,trivial⟩ ⟨rfl,rfl,rfl,trivial⟩ rfl rfl
    ·have hb15':=ab hb15
     iterate 5 refine w_ ?_
     cases hb16:(decide (0≤ai.2.1))
     ·have hb16':=ae hb16
      iterate 8 refine w_ ?_
      refine AC.skip ?_
      refine (?_:AC _ _ _ _ _)
      iterate 4 refine w_ ?_
      refine Qc<|Zq ⟨(m+1),out,rfl,(by omega),(by exact Ho (by omega) hO1 (WB hai ham (by omega))),rfl⟩ (by omega) ?_
      exact Wk.of [] rfl ⟨rfl,rfl,rfl,rfl,rfl,rfl,rfl,rfl,rfl,rfl,rfl,rfl,rfl,rfl,rfl,trivial⟩ ⟨rfl,rfl,rfl,trivial⟩ rfl rfl
     ·have hb16':=ab hb16
      iterate 7 refine w_ ?_
      cases hb17:(!decide (ai.2.2.2=am.2.2.2))
      ·have hb17':(ai.2.2.2=am.2.2.2):=QV hb17
       refine w_ ?_
       refine AC.skip ?_
       refine (?_:AC _ _ _ _ _)
       iterate 4 refine w_ ?_
       refine Qc<|Zq ⟨(m+1),out,rfl,(by omega),(by exact Ho (by omega) hO1 (WB hai ham (by omega))),rfl⟩ (by omega) ?_
       exact Wk.of [] rfl ⟨rfl,rfl,rfl,rfl,rfl,rfl,rfl,rfl,rfl,rfl,rfl,rfl,rfl,rfl,rfl,trivial⟩ ⟨rfl,rfl,rfl,trivial⟩ rfl rfl
      ·have hb17':¬(ai.2.2.2=am.2.2.2):=Za hb17
       iterate 5 refine w_ ?_
       refine lc (dBs 6 (e:= .int) ZL) ?_
       refine lc (dBs 7 (e:=(.sl 3 .int)) YW (hab:=by exact ⟨_,_,_,_,rfl,(.inl ⟨_,rfl,rfl,rfl⟩),⟨rfl,rfl⟩,rfl⟩)) ?_
       refine lc (dA 8 Kg) ?_
       refine w_ ?_
       refine Qc ?_
       refine (?_:AC _ _ _ _ _)
       iterate 4 refine w_ ?_
       refine Qc<|Zq ⟨(m+1),(out++([[(i:Int),m]])),rfl,(by omega),(by exact Qmm (by omega) hO1 (QlL (by omega) hai ham (by omega) (by omega) (by omega) (by omega) (by omega))),rfl⟩ (by omega) ?_
       exact Wk.of [(4,8)] rfl ⟨rfl,rfl,rfl,rfl,rfl,rfl,rfl,rfl,rfl,rfl,rfl,rfl,rfl,rfl,rfl,trivial⟩ ⟨rfl,rfl,(Qj (by first | rfl | simp)),trivial⟩ rfl rfl
theorem Kv (c:(List (ByteArray×Int))×List ByteArray×(List (Int×Int×Bool×Int)))(hs:SgOk c):FC Tryz.prog 482 [(true,[.dat (.sl 44 (.pr .str .int)) c.1, .dat (.sl 9 .str) c.2.1, .dat (.sl 46 (.pr .int (.pr .int (.pr .bool .int)))) c.2.2])] [] 0 (Yo 386 (.pr .int (.pr .int .int)) (Xg c (rwI c) c.2.1.length)):=by
 have hr:∀a∈c.2.2,InR c.2.1.length a:=fun a ha=>Yn (hs.arcs a ha)
 have hn3:=hs.some_
 have hfw:=hs.few
 have h8:=hs.sigs.2.2
 have hmn:=Qas (n:=c.2.1.length) (as_:=c.2.2)
 have hml:=Jx (n:=c.2.1.length) (as_:=c.2.2)
 have hnl:=YF (n:=c.2.1.length) (es:=ixE c.2.2)
 have hrw:∀k s,k < c.2.1.length→(rwI c k s).length≤c.2.2.length:=fun k s hk=>QnL hk
 refine Qn Tryz.func482 rfl rfl Tryz.ntmps482 fun O_ hO w0_ N0_ X_ h0_ f0_=> ?_
 refine w_ ?_
 refine xbx 0 ?_
 iterate 2 refine w_ ?_
 apply dW (⟨some 11,lR 1,[(1,some (.arr 386 (.pr .int (.pr .int .int)) ([])))]⟩ :: io 12 (ag [.dat (.sl 44 (.pr .str .int)) c.1, .dat (.sl 9 .str) c.2.1, .dat (.sl 46 (.pr .int (.pr .int (.pr .bool .int)))) c.2.2]) :: io 13 (lf (.dat (.sl 3 .int) (Yz c.2.1.length c.2.2))) :: io 14 (ag [.dat (.sl 44 (.pr .str .int)) c.1, .dat (.sl 9 .str) c.2.1, .dat (.sl 46 (.pr .int (.pr .int (.pr .bool .int)))) c.2.2]) :: io 15 (lf (.dat (.sl 32 (.sl 3 .int)) (Q1 c.2.1.length (ixE c.2.2)))) :: i3 3 _ _ _ []) [0,1,1,7,1,0,0,0]
 refine zz (fun _ h_=>ac (dBs 1 (e:=(.pr .int (.pr .int .int))) Up) rfl) ?_
 refine z_ ?_
 refine zz (fun _ h_=>ac (dK (Wa c hs.w).frozen Qb1) rfl) ?_
 refine z_ ?_
 refine zz (fun _ h_=>ac (dK (JE c hr (by omega)).frozen QgC) rfl) ?_
 iterate 3 refine z_ ?_
 exact zN
 iterate 4 refine w_ ?_
 refine alL 17 fun hl1=> ?_
 iterate 4 refine w_ ?_
 refine lp0 c.2.1.length (fun k=>⟨[(1,lP 0 0),(2,lf (.val (.slice none 0 0))),(3,lR 2),(4,lf (.dat (.sl 3 .int) (Yz c.2.1.length c.2.2))),(5,lf (.dat (.sl 32 (.sl 3 .int)) (Q1 c.2.1.length (ixE c.2.2)))),(18,lI (c.2.1.length:Int)),(19,lI (k:Int))],[bx 0 27 [.dat (.sl 44 (.pr .str .int)) c.1, .dat (.sl 9 .str) c.2.1, .dat (.sl 46 (.pr .int (.pr .int (.pr .bool .int)))) c.2.2],(2,some (.arr 386 (.pr .int (.pr .int .int)) (Xg c (rwI c) k)))]⟩) ?_ fun k hk2=> ?_
 · exact Wk.of [(2,1)] rfl ⟨rfl,rfl,rfl,rfl,rfl,rfl,rfl,trivial⟩ ⟨rfl,(Qj (rfl)),trivial⟩ rfl rfl
 have hbf:=fun j hj=>QiT (n:=k) (k:=k) (j:=j) hs.w (by omega) hj hrw
 iterate 4 refine w_ ?_
 cases hb3:(decide ((k:Int) < (c.2.1.length:Int)))
 ·have hb3':=ae hb3
  refine w_ ?_
  refine Qh ?_
  refine (?_:AC _ _ _ _ _)
  iterate 4 refine w_ ?_
  refine Qb<|fo_ hO ?_
  (congr 1; omega)
 ·have hb3':=ab hb3
  iterate 11 refine w_ ?_
  refine alL 23 fun hl4=> ?_
  iterate 4 refine w_ ?_
  refine lp0 c.1.length (fun j=>⟨[(1,lP 0 0),(2,lf (.val (.slice none 0 0))),(3,lR 3),(4,lf (.dat (.sl 3 .int) (Yz c.2.1.length c.2.2))),(5,lf (.dat (.sl 32 (.sl 3 .int)) (Q1 c.2.1.length (ixE c.2.2)))),(6,lI (k:Int)),(18,lI (c.2.1.length:Int)),(19,lI (k:Int)),(20,lB true),(21,lI (k:Int)),(22,lP 0 0),(23,lf (.dat (.sl 44 (.pr .str .int)) c.1)),(24,lI (c.1.length:Int)),(25,lI (j:Int))],[bx 0 27 [.dat (.sl 44 (.pr .str .int)) c.1, .dat (.sl 9 .str) c.2.1, .dat (.sl 46 (.pr .int (.pr .int (.pr .bool .int)))) c.2.2],(3,some (.arr 386 (.pr .int (.pr .int .int)) (Xg c (rwI c) k++XB c (rwI c) k j)))]⟩) ?_ fun j hk5=> ?_
  · exact Wk.of [(3,2)] rfl ⟨rfl,rfl,rfl,rfl,rfl,rfl,rfl,rfl,rfl,rfl,rfl,rfl,rfl,rfl,trivial⟩ ⟨rfl,(Qj (by simp[XB,rf])),trivial⟩ rfl rfl
  have hbj:=hbf j (by omega)
  iterate 4 refine w_ ?_
  cases hb6:(decide ((j:Int) < (c.1.length:Int)))
  ·have hb6':=ae hb6
   refine w_ ?_
   refine Qh ?_
   refine (?_:AC _ _ _ _ _)
   iterate 3 refine w_ ?_
   refine Qc ?_
   refine l0_ ?_
   exact Wk.of [(2,3)] rfl ⟨rfl,rfl,rfl,rfl,rfl,rfl,rfl,trivial⟩ ⟨rfl,(Qj (Qc3 (by omega) (by omega))),trivial⟩ rfl rfl
  ·have hb6':=ab hb6
   iterate 12 refine w_ ?_
   obtain ⟨x,hx8⟩:∃z,(Yz c.2.1.length c.2.2)[k]? =some z:=⟨_,aa (by omega)⟩
   have hx:=hx8
   have hnx:=hmn _ (aj hx8)
   iterate 2 refine w_ ?_
   refine alI 31 fun hi9=> ?_
   refine w_ ?_
   refine lc (X9 (Qk rfl) (Qa rfl) rfl (by omega))<|lc (Jg (Qa rfl) (Qa rfl) rfl (by omega) (by first | exact hnx | exact hny | exact bS hnx (bU (by decide)) | exact bS hny (bU (by decide)) | omega | exact cu _))<|lc (Jo (Qa rfl) (Qk rfl) rfl (by first | exact hnx | exact hny | exact bS hnx (bU (by decide)) | exact bS hny (bU (by decide)) | omega | exact cu _) (by omega)) ?_
   iterate 2 refine w_ ?_
   cases hb10:(decide ((((x / 2 ^ (2*(j:Int)).toNat).toNat &&& (3:Int).toNat:Nat):Int)=0))
   ·have hb10':=ae hb10
    iterate 5 refine w_ ?_
    obtain ⟨ts,hx12⟩:∃z,(Q1 c.2.1.length (ixE c.2.2))[k]? =some z:=⟨_,aa (by omega)⟩
    have hts:=hx12
    have htl:=Vd hx12
    rw[Jf] at htl
    have htm:∀x,x∈ts↔_:=fun x=>Qcr (x:=x) (fun a ha=>(hr a ha).1.1) hx12
    iterate 2 refine w_ ?_
    refine alL 40 fun hl13=> ?_
    iterate 4 refine w_ ?_
    refine lp0 ts.length (fun i=>⟨[(1,lP 0 0),(2,lf (.val (.slice none 0 0))),(3,lR 4),(4,lf (.dat (.sl 3 .int) (Yz c.2.1.length c.2.2))),(5,lf (.dat (.sl 32 (.sl 3 .int)) (Q1 c.2.1.length (ixE c.2.2)))),(6,lI (k:Int)),(7,lI (j:Int)),(18,lI (c.2.1.length:Int)),(19,lI (k:Int)),(20,lB true),(21,lI (k:Int)),(22,lP 0 0),(23,lf (.dat (.sl 44 (.pr .str .int)) c.1)),(24,lI (c.1.length:Int)),(25,lI (j:Int)),(26,lB true),(27,lI (j:Int)),(28,lf (.dat (.sl 3 .int) (Yz c.2.1.length c.2.2))),(29,lI (k:Int)),(30,lf (.elt .int x 0)),(31,lI x),(32,lI (j:Int)),(33,lI (2*(j:Int))),(34,lI (x / 2 ^ (2*(j:Int)).toNat)),(35,lI (((x / 2 ^ (2*(j:Int)).toNat).toNat &&& (3:Int).toNat:Nat):Int)),(36,lB false),(37,lf (.dat (.sl 32 (.sl 3 .int)) (Q1 c.2.1.length (ixE c.2.2)))),(38,lI (k:Int)),(39,lf (.elt (.sl 3 .int) ts 0)),(40,lf (.dat (.sl 3 .int) ts)),(41,lI (ts.length:Int)),(42,lI (i:Int))],[bx 0 27 [.dat (.sl 44 (.pr .str .int)) c.1, .dat (.sl 9 .str) c.2.1, .dat (.sl 46 (.pr .int (.pr .int (.pr .bool .int)))) c.2.2],(4,some (.arr 386 (.pr .int (.pr .int .int)) (Xg c (rwI c) k++XB c (rwI c) k j++rg (QdV c ts k j) i)))]⟩) ?_ fun i hk14=> ?_
    · exact Wk.of [(4,3)] rfl ⟨rfl,rfl,rfl,rfl,rfl,rfl,rfl,rfl,rfl,rfl,rfl,rfl,rfl,rfl,rfl,rfl,rfl,rfl,rfl,rfl,rfl,rfl,rfl,rfl,rfl,rfl,rfl,rfl,rfl,rfl,rfl,rfl,trivial⟩ ⟨rfl,(Qj (by simp[rg])),trivial⟩ rfl rfl
    have hbi:=WL (f:=QdV c ts k j) (m:=i)
    have hbk:=hbj.2 (by omega)
    iterate 4 refine w_ ?_
    cases hb15:(decide ((i:Int) < (ts.length:Int)))
    ·have hb15':=ae hb15
     refine w_ ?_
     refine Qh ?_
     refine (?_:AC _ _ _ _ _)
     iterate 3 refine w_ ?_
     refine Qc ?_
     refine l0_ ?_
     exact Wk.of [(3,4)] rfl ⟨rfl,rfl,rfl,rfl,rfl,rfl,rfl,rfl,rfl,rfl,rfl,rfl,rfl,rfl,trivial⟩ ⟨rfl,(Qj (by first | exact H1 (VE hr ⟨by omega,by omega⟩ (by omega) hx (by assumption)) | exact Qc0 (Qbl hr ⟨by omega,by omega⟩ (by omega) hx (by assumption)) hts (by omega) (by omega))),trivial⟩ rfl rfl
    ·have hb15':=ab hb15
     iterate 5 refine w_ ?_
     obtain ⟨q,hx17⟩:∃z,ts[i]? =some z:=⟨_,aa (by omega)⟩
     obtain ⟨jq,aq,hjq,haq,hq⟩:=(htm _).1 (aj hx17)
     have hjl:=(ah.1 hjq).1
     have hqq:=hx17
     iterate 2 refine w_ ?_
     refine alI 45 fun hi18=> ?_
     iterate 6 refine w_ ?_
     obtain ⟨ar,hx20⟩:∃z,c.2.2[(q).toNat]? =some z:=⟨_,aa (by omega)⟩
     have hain:=hr _ (aj hx20)
     obtain ⟨⟨ha1,ha2⟩,ha3,ha4⟩:=hain
     have hlab:=(hs.arcs _ (aj hx20)).2.2.1
     have hslt:ar.2.1 < (c.1.length:Int):=Qdv hlab
     have har:=hx20
     iterate 2 refine w_ ?_
     refine lc (xal 5 (.pr .int (.pr .int (.pr .bool .int))) ZJ) ?_
     iterate 5 refine w_ ?_
     refine alI 52 fun hi21=> ?_
     iterate 3 refine w_ ?_
     cases hb22:(!decide (ar.2.1=(j:Int)))
     ·have hb22':(ar.2.1=(j:Int)):=QV hb22
      iterate 16 refine w_ ?_
      refine Qt rfl rfl rfl ?_ rfl
      refine Qt rfl rfl rfl ?_ rfl
      refine Qt rfl rfl rfl ?_ rfl
      refine Qt rfl rfl rfl ?_ rfl
      iterate 5 refine w_ ?_
      refine AC.skip ?_
      refine (?_:AC _ _ _ _ _)
      iterate 3 refine w_ ?_
      refine Qc ?_
      refine l0_ ?_
      exact Wk.of [] rfl ⟨rfl,rfl,rfl,rfl,rfl,rfl,rfl,rfl,rfl,rfl,rfl,rfl,rfl,rfl,rfl,rfl,rfl,rfl,rfl,rfl,rfl,rfl,rfl,rfl,rfl,rfl,rfl,rfl,rfl,rfl,rfl,rfl,trivial⟩ ⟨rfl,(Qj (by first | exact ZB (Yr hqq har (Wr (by assumption) (VE hr ⟨ha3,ha4⟩ (by omega) hy (by assumption)) (by assumption))) | exact ZB (Yr hqq har (Wl (by assumption) (VE hr ⟨ha3,ha4⟩ (by omega) hy (by assumption)) (by assumption))) | exact congrArg _ (Q0 (ZX hqq har (Wo (by assumption)))) | exact congrArg _ (Q0 (ZX hqq har (X7 (by assumption) (by assumption)))) | exact congrArg _ (Q0 (ZX hqq har (X2 (Qbl hr ⟨ha3,ha4⟩ (by omega) hy (by assumption))))))),trivial⟩ rfl rfl
     ·have hb22':¬(ar.2.1=(j:Int)):=Za hb22
      iterate 3 refine w_ ?_
      obtain ⟨y,hx24⟩:∃z,(Yz c.2.1.length c.2.2)[(ar.2.2.2).toNat]? =some z:=⟨_,aa (by omega)⟩
      have hy:=hx24
      have hny:=hmn _ (aj hx24)
      iterate 3 refine w_ ?_
      refine lgy rfl rfl (X9 (Qk rfl) (Qa rfl) rfl (by omega))<|lgy rfl rfl (Jg (Qa rfl) (Qa rfl) rfl (by omega) (by first | exact hnx | exact hny | exact bS hnx (bU (by decide)) | exact bS hny (bU (by decide)) | omega | exact cu _))<|lgy rfl rfl (Jo (Qa rfl) (Qk rfl) rfl (by first | exact hnx | exact hny | exact bS hnx (bU (by decide)) | exact bS hny (bU (by decide)) | omega | exact cu _) (by omega)) ?_
      iterate 3 refine w_ ?_
      cases hb25:(decide ((((y / 2 ^ (2*(j:Int)).toNat).toNat &&& (3:Int).toNat:Nat):Int)=0))
      ·have hb25':=ae hb25
       iterate 4 refine w_ ?_
       refine Qt rfl rfl rfl ?_ rfl
       refine Qt rfl rfl rfl ?_ rfl
       refine Qt rfl rfl rfl ?_ rfl
       refine Qt rfl rfl rfl ?_ rfl
       iterate 5 refine w_ ?_
       refine AC.skip ?_
       refine (?_:AC _ _ _ _ _)
       iterate 3 refine w_ ?_
       refine Qc ?_
       refine l0_ ?_
       exact Wk.of [] rfl ⟨rfl,rfl,rfl,rfl,rfl,rfl,rfl,rfl,rfl,rfl,rfl,rfl,rfl,rfl,rfl,rfl,rfl,rfl,rfl,rfl,rfl,rfl,rfl,rfl,rfl,rfl,rfl,rfl,rfl,rfl,rfl,rfl,trivial⟩ ⟨rfl,(Qj (by first | exact ZB (Yr hqq har (Wr (by assumption) (VE hr ⟨ha3,ha4⟩ (by omega) hy (by assumption)) (by assumption))) | exact ZB (Yr hqq har (Wl (by assumption) (VE hr ⟨ha3,ha4⟩ (by omega) hy (by assumption)) (by assumption))) | exact congrArg _ (Q0 (ZX hqq har (Wo (by assumption)))) | exact congrArg _ (Q0 (ZX hqq har (X7 (by assumption) (by assumption)))) | exact congrArg _ (Q0 (ZX hqq har (X2 (Qbl hr ⟨ha3,ha4⟩ (by omega) hy (by assumption))))))),trivial⟩ rfl rfl
      ·have hb25':=ab hb25
       iterate 2 refine w_ ?_
       refine lgy rfl rfl (dK (VJ c (j:Int) (by omega)) QcF) ?_
       refine w_ ?_
       cases hb26:(QE c (j:Int))
       ·iterate 14 refine w_ ?_
        refine lc (Qm H8 ⟨_,_,rfl,(Ql rfl),⟨_,_,rfl,(Ql rfl),⟨_,_,rfl,(Ql rfl),rfl⟩⟩⟩ (aA.1 rfl) rfl rfl) ?_
        refine lc (dBs 6 (e:=(.pr .int (.pr .int .int))) Up (hab:=by exact ⟨_,_,_,_,rfl,⟨[dI (k:Int)],[dI (j:Int),dI q],_,_,_,_,rfl,rfl,⟨rfl,rfl⟩,⟨[dI (j:Int)],[dI q],_,_,_,_,rfl,rfl,⟨rfl,rfl⟩,⟨rfl,rfl⟩,rfl⟩,rfl⟩,⟨rfl,rfl⟩,rfl⟩)) ?_
        refine lc (dA 7 Qae) ?_
        refine w_ ?_
        refine Qc ?_
        refine (?_:AC _ _ _ _ _)
        iterate 3 refine w_ ?_
        refine Qc ?_
        refine l0_ ?_
        exact Wk.of [(4,7)] rfl ⟨rfl,rfl,rfl,rfl,rfl,rfl,rfl,rfl,rfl,rfl,rfl,rfl,rfl,rfl,rfl,rfl,rfl,rfl,rfl,rfl,rfl,rfl,rfl,rfl,rfl,rfl,rfl,rfl,rfl,rfl,rfl,rfl,trivial⟩ ⟨rfl,(Qj (by first | exact ZB (Yr hqq har (Wr (by assumption) (VE hr ⟨ha3,ha4⟩ (by omega) hy (by assumption)) (by assumption))) | exact ZB (Yr hqq har (Wl (by assumption) (VE hr ⟨ha3,ha4⟩ (by omega) hy (by assumption)) (by assumption))) | exact congrArg _ (Q0 (ZX hqq har (Wo (by assumption)))) | exact congrArg _ (Q0 (ZX hqq har (X7 (by assumption) (by assumption)))) | exact congrArg _ (Q0 (ZX hqq har (X2 (Qbl hr ⟨ha3,ha4⟩ (by omega) hy (by assumption))))))),trivial⟩ rfl rfl
       ·iterate 3 refine w_ ?_
        refine lgy rfl rfl (dK (VJ c ar.2.1 (by omega)) QcF) ?_
        iterate 4 refine w_ ?_
        cases hb27:(QE c ar.2.1)
        ·iterate 6 refine w_ ?_
         refine lc (Qm H8 ⟨_,_,rfl,(Ql rfl),⟨_,_,rfl,(Ql rfl),⟨_,_,rfl,(Ql rfl),rfl⟩⟩⟩ (aA.1 rfl) rfl rfl) ?_
         refine lc (dBs 8 (e:=(.pr .int (.pr .int .int))) Up (hab:=by exact ⟨_,_,_,_,rfl,⟨[dI (k:Int)],[dI (j:Int),dI q],_,_,_,_,rfl,rfl,⟨rfl,rfl⟩,⟨[dI (j:Int)],[dI q],_,_,_,_,rfl,rfl,⟨rfl,rfl⟩,⟨rfl,rfl⟩,rfl⟩,rfl⟩,⟨rfl,rfl⟩,rfl⟩)) ?_
         refine lc (dA 9 Qae) ?_
         refine w_ ?_
         refine Qc ?_
         refine (?_:AC _ _ _ _ _)
         iterate 3 refine w_ ?_
         refine Qc ?_
         refine l0_ ?_
         exact Wk.of [(4,9)] rfl ⟨rfl,rfl,rfl,rfl,rfl,rfl,rfl,rfl,rfl,rfl,rfl,rfl,rfl,rfl,rfl,rfl,rfl,rfl,rfl,rfl,rfl,rfl,rfl,rfl,rfl,rfl,rfl,rfl,rfl,rfl,rfl,rfl,trivial⟩ ⟨rfl,(Qj (by first | exact ZB (Yr hqq har (Wr (by assumption) (VE hr ⟨ha3,ha4⟩ (by omega) hy (by assumption)) (by assumption))) | exact ZB (Yr hqq har (Wl (by assumption) (VE hr ⟨ha3,ha4⟩ (by omega) hy (by assumption)) (by assumption))) | exact congrArg _ (Q0 (ZX hqq har (Wo (by assumption)))) | exact congrArg _ (Q0 (ZX hqq har (X7 (by assumption) (by assumption)))) | exact congrArg _ (Q0 (ZX hqq har (X2 (Qbl hr ⟨ha3,ha4⟩ (by omega) hy (by assumption))))))),trivial⟩ rfl rfl
        ·refine w_ ?_
         refine AC.skip ?_
         refine (?_:AC _ _ _ _ _)
         iterate 3 refine w_ ?_
         refine Qc ?_
         refine l0_ ?_
         exact Wk.of [] rfl ⟨rfl,rfl,rfl,rfl,rfl,rfl,rfl,rfl,rfl,rfl,rfl,rfl,rfl,rfl,rfl,rfl,rfl,rfl,rfl,rfl,rfl,rfl,rfl,rfl,rfl,rfl,rfl,rfl,rfl,rfl,rfl,rfl,trivial⟩ ⟨rfl,(Qj (by first | exact ZB (Yr hqq har (Wr (by assumption) (VE hr ⟨ha3,ha4⟩ (by omega) hy (by assumption)) (by assumption))) | exact ZB (Yr hqq har (Wl (by assumption) (VE hr ⟨ha3,ha4⟩ (by omega) hy (by assumption)) (by assumption))) | exact congrArg _ (Q0 (ZX hqq har (Wo (by assumption)))) | exact congrArg _ (Q0 (ZX hqq har (X7 (by assumption) (by assumption)))) | exact congrArg _ (Q0 (ZX hqq har (X2 (Qbl hr ⟨ha3,ha4⟩ (by omega) hy (by assumption))))))),trivial⟩ rfl rfl
   ·have hb10':=ab hb10
    refine w_ ?_
    refine Qh ?_
    refine (?_:AC _ _ _ _ _)
    iterate 3 refine w_ ?_
    refine Qc ?_
    refine l0_ ?_
    exact Wk.of [] rfl ⟨rfl,rfl,rfl,rfl,rfl,rfl,rfl,rfl,rfl,rfl,rfl,rfl,rfl,rfl,trivial⟩ ⟨rfl,(Qj (by first | exact H1 (VE hr ⟨by omega,by omega⟩ (by omega) hx (by assumption)) | exact Qc0 (Qbl hr ⟨by omega,by omega⟩ (by omega) hx (by assumption)) hts (by omega) (by omega))),trivial⟩ rfl rfl
theorem WN (c:(List (ByteArray×Int))×List ByteArray×(List (Int×Int×Bool×Int)))(sig:Int)(hs:sig < (c.1.length:Int)):FC Tryz.prog 276 [(true,[.dat (.sl 44 (.pr .str .int)) c.1, .dat (.sl 9 .str) c.2.1, .dat (.sl 46 (.pr .int (.pr .int (.pr .bool .int)))) c.2.2]),(false,[dI sig])] [] 0 (QY (lB (!QE c sig))):=by
 refine Qn Tryz.func276 rfl rfl Tryz.ntmps276 fun O_ hO w0_ N0_ X_ h0_ f0_=> ?_
 refine acI 1 fun hi1=> ?_
 refine w_ ?_
 refine xbx 0 ?_
 iterate 6 refine w_ ?_
 cases hb2:(decide (sig < 0))
 ·have hb2':=ae hb2
  iterate 3 refine w_ ?_
  obtain ⟨x3,hx4⟩:∃z,c.1[(sig).toNat]? =some z:=⟨_,aa (by omega)⟩
  iterate 7 refine w_ ?_
  refine Qb<|fqB hO ?_
  (rw[← Kh (by omega) hx4]; done)
 ·have hb2':=ab hb2
  iterate 10 refine w_ ?_
  refine Qb<|fqB hO ?_
  (rw[← QiH (by omega)]; rfl)
theorem VH (c:(List (ByteArray×Int))×List ByteArray×(List (Int×Int×Bool×Int)))(hl:c.1.length≤100000):FC Tryz.prog 155 [(true,[.dat (.sl 44 (.pr .str .int)) c.1, .dat (.sl 9 .str) c.2.1, .dat (.sl 46 (.pr .int (.pr .int (.pr .bool .int)))) c.2.2])] [] 0 (Yo 3 .int (QQ c.1 c.1.length)):=by
 refine Qn Tryz.func155 rfl rfl Tryz.ntmps155 fun O_ hO w0_ N0_ X_ h0_ f0_=> ?_
 refine w_ ?_
 refine xbx 0 ?_
 iterate 9 refine w_ ?_
 refine alL 6 fun hl1=> ?_
 iterate 4 refine w_ ?_
 refine AC.wk (Wk.nilS 1 3 3 .int rfl (Fresh.of rfl) (nlr rfl)) ?_
 refine lp0 c.1.length (fun k=>⟨[(1,lP 0 0),(2,lf (.val (.slice none 0 0))),(3,lR 2),(7,lI (c.1.length:Int)),(8,lI (k:Int))],[bx 0 27 [.dat (.sl 44 (.pr .str .int)) c.1, .dat (.sl 9 .str) c.2.1, .dat (.sl 46 (.pr .int (.pr .int (.pr .bool .int)))) c.2.2],ar 2 3 .int (QQ c.1 k)]⟩) ?_ fun k hk2=> ?_
 · exact Wk.of [(2,1)] rfl ⟨rfl,rfl,rfl,rfl,rfl,trivial⟩ ⟨rfl,(Qj (rfl)),trivial⟩ rfl rfl
 have hol:=JX (ss:=c.1) (k:=k)
 iterate 4 refine w_ ?_
 cases hb3:(decide ((k:Int) < (c.1.length:Int)))
 ·have hb3':=ae hb3
  refine w_ ?_
  refine Qh ?_
  refine (?_:AC _ _ _ _ _)
  iterate 4 refine w_ ?_
  refine Qb<|fo_ hO ?_
  (congr 1; omega)
 ·have hb3':=ab hb3
  iterate 11 refine w_ ?_
  refine lc (dK (WN c (k:Int) (by omega)) Km) ?_
  refine w_ ?_
  cases hb4:(QE c (k:Int))
  ·iterate 4 refine w_ ?_
   refine lc (dBs 3 (e:= .int) ZL) ?_
   refine lc (dA 4 YO) ?_
   refine w_ ?_
   refine Qc ?_
   refine (?_:AC _ _ _ _ _)
   iterate 3 refine w_ ?_
   refine Qc ?_
   refine l0_ ?_
   exact Wk.of [(2,4)] rfl ⟨rfl,rfl,rfl,rfl,rfl,trivial⟩ ⟨rfl,(Qj (by first | exact QcD (by omega) (by assumption) | exact QeM (by omega) (by assumption))),trivial⟩ rfl rfl
  ·refine w_ ?_
   refine AC.skip ?_
   refine (?_:AC _ _ _ _ _)
   iterate 3 refine w_ ?_
   refine Qc ?_
   refine l0_ ?_
   exact Wk.of [] rfl ⟨rfl,rfl,rfl,rfl,rfl,trivial⟩ ⟨rfl,(Qj (by first | exact QcD (by omega) (by assumption) | exact QeM (by omega) (by assumption))),trivial⟩ rfl rfl
theorem JB (c:(List (ByteArray×Int))×List ByteArray×(List (Int×Int×Bool×Int)))(hs:SgW c):FC Tryz.prog 378 [(true,[.dat (.sl 44 (.pr .str .int)) c.1, .dat (.sl 9 .str) c.2.1, .dat (.sl 46 (.pr .int (.pr .int (.pr .bool .int)))) c.2.2])] [] 0 (Yo 386 (.pr .int (.pr .int .int)) (Xg c (rwS c) c.2.1.length)):=by
 have hr:∀a∈c.2.2,InR c.2.1.length a:=fun a ha=>(hs.arcs a ha).1
 have hn3:=hs.some_
 have hfw:=hs.few
 have h8:=hs.sig8
 have hrw:∀k s,k < c.2.1.length→(rwS c k s).length≤c.2.2.length:=fun k s hk=>Qnu
 refine Qn Tryz.func378 rfl rfl Tryz.ntmps378 fun O_ hO w0_ N0_ X_ h0_ f0_=> ?_
 refine w_ ?_
 refine xbx 0 ?_
 iterate 9 refine w_ ?_
 refine alL 9 fun hl1=> ?_
 iterate 4 refine w_ ?_
 refine AC.wk (Wk.nilS 1 3 386 (.pr .int (.pr .int .int)) rfl (Fresh.of rfl) (nlr rfl)) ?_
 refine lp0 c.2.1.length (fun k=>⟨[(1,lP 0 0),(2,lf (.val (.slice none 0 0))),(3,lR 2),(10,lI (c.2.1.length:Int)),(11,lI (k:Int))],[bx 0 27 [.dat (.sl 44 (.pr .str .int)) c.1, .dat (.sl 9 .str) c.2.1, .dat (.sl 46 (.pr .int (.pr .int (.pr .bool .int)))) c.2.2],(2,some (.arr 386 (.pr .int (.pr .int .int)) (Xg c (rwS c) k)))]⟩) ?_ fun k hk2=> ?_
 · exact Wk.of [(2,1)] rfl ⟨rfl,rfl,rfl,rfl,rfl,trivial⟩ ⟨rfl,(Qj (rfl)),trivial⟩ rfl rfl
 have hbf:=fun j hj=>QiT (n:=k) (k:=k) (j:=j) hs (by omega) hj hrw
 iterate 4 refine w_ ?_
 cases hb3:(decide ((k:Int) < (c.2.1.length:Int)))
 ·have hb3':=ae hb3
  refine w_ ?_
  refine Qh ?_
  refine (?_:AC _ _ _ _ _)
  iterate 4 refine w_ ?_
  refine Qb<|fo_ hO ?_
  (congr 1; omega)
 ·have hb3':=ab hb3
  iterate 11 refine w_ ?_
  refine alL 15 fun hl4=> ?_
  iterate 4 refine w_ ?_
  refine lp0 c.1.length (fun j=>⟨[(1,lP 0 0),(2,lf (.val (.slice none 0 0))),(3,lR 3),(4,lI (k:Int)),(10,lI (c.2.1.length:Int)),(11,lI (k:Int)),(12,lB true),(13,lI (k:Int)),(14,lP 0 0),(15,lf (.dat (.sl 44 (.pr .str .int)) c.1)),(16,lI (c.1.length:Int)),(17,lI (j:Int))],[bx 0 27 [.dat (.sl 44 (.pr .str .int)) c.1, .dat (.sl 9 .str) c.2.1, .dat (.sl 46 (.pr .int (.pr .int (.pr .bool .int)))) c.2.2],(3,some (.arr 386 (.pr .int (.pr .int .int)) (Xg c (rwS c) k++XB c (rwS c) k j)))]⟩) ?_ fun j hk5=> ?_
  · exact Wk.of [(3,2)] rfl ⟨rfl,rfl,rfl,rfl,rfl,rfl,rfl,rfl,rfl,rfl,rfl,rfl,trivial⟩ ⟨rfl,(Qj (by simp[XB,rf])),trivial⟩ rfl rfl
  have hbj:=hbf j (by omega)
  iterate 4 refine w_ ?_
  cases hb6:(decide ((j:Int) < (c.1.length:Int)))
  ·have hb6':=ae hb6
   refine w_ ?_
   refine Qh ?_
   refine (?_:AC _ _ _ _ _)
   iterate 3 refine w_ ?_
   refine Qc ?_
   refine l0_ ?_
   exact Wk.of [(2,3)] rfl ⟨rfl,rfl,rfl,rfl,rfl,trivial⟩ ⟨rfl,(Qj (Qc3 (by omega) (by omega))),trivial⟩ rfl rfl
  ·have hb6':=ab hb6
   iterate 13 refine w_ ?_
   refine lc (dK (Zd c (k:Int) (j:Int)) Yy) ?_
   iterate 2 refine w_ ?_
   cases hb7:(QH c (k:Int) (j:Int))
   ·refine w_ ?_
    refine Qh ?_
    refine (?_:AC _ _ _ _ _)
    iterate 3 refine w_ ?_
    refine Qc ?_
    refine l0_ ?_
    exact Wk.of [] rfl ⟨rfl,rfl,rfl,rfl,rfl,rfl,rfl,rfl,rfl,rfl,rfl,rfl,trivial⟩ ⟨rfl,(Qj (by first | exact H1 (by assumption) | exact QcY (by assumption) (by omega) (by omega))),trivial⟩ rfl rfl
   ·iterate 5 refine w_ ?_
    refine alL 26 fun hl8=> ?_
    iterate 4 refine w_ ?_
    refine lp0 c.2.2.length (fun i=>⟨[(1,lP 0 0),(2,lf (.val (.slice none 0 0))),(3,lR 4),(4,lI (k:Int)),(5,lI (j:Int)),(10,lI (c.2.1.length:Int)),(11,lI (k:Int)),(12,lB true),(13,lI (k:Int)),(14,lP 0 0),(15,lf (.dat (.sl 44 (.pr .str .int)) c.1)),(16,lI (c.1.length:Int)),(17,lI (j:Int)),(18,lB true),(19,lI (j:Int)),(20,ag [.dat (.sl 44 (.pr .str .int)) c.1, .dat (.sl 9 .str) c.2.1, .dat (.sl 46 (.pr .int (.pr .int (.pr .bool .int)))) c.2.2]),(21,lI (k:Int)),(22,lI (j:Int)),(23,lB true),(24,lB (!true)),(25,lP 0 2),(26,lf (.dat (.sl 46 (.pr .int (.pr .int (.pr .bool .int)))) c.2.2)),(27,lI (c.2.2.length:Int)),(28,lI (i:Int))],[bx 0 27 [.dat (.sl 44 (.pr .str .int)) c.1, .dat (.sl 9 .str) c.2.1, .dat (.sl 46 (.pr .int (.pr .int (.pr .bool .int)))) c.2.2],(4,some (.arr 386 (.pr .int (.pr .int .int)) (Xg c (rwS c) k++XB c (rwS c) k j++rg (QfG c k j) i)))]⟩) ?_ fun i hk9=> ?_
    · exact Wk.of [(4,3)] rfl ⟨rfl,rfl,rfl,rfl,rfl,rfl,rfl,rfl,rfl,rfl,rfl,rfl,rfl,rfl,rfl,rfl,rfl,rfl,rfl,rfl,rfl,rfl,rfl,rfl,trivial⟩ ⟨rfl,(Qj (by simp[rg])),trivial⟩ rfl rfl
    have hbi:=WL (f:=QfG c k j) (m:=i)
    have hbk:=hbj.2 (by omega)
    iterate 4 refine w_ ?_
    cases hb10:(decide ((i:Int) < (c.2.2.length:Int)))
    ·have hb10':=ae hb10
     refine w_ ?_
     refine Qh ?_
     refine (?_:AC _ _ _ _ _)
     iterate 3 refine w_ ?_
     refine Qc ?_
     refine l0_ ?_
     exact Wk.of [(3,4)] rfl ⟨rfl,rfl,rfl,rfl,rfl,rfl,rfl,rfl,rfl,rfl,rfl,rfl,trivial⟩ ⟨rfl,(Qj (by first | exact H1 (by assumption) | exact QcY (by assumption) (by omega) (by omega))),trivial⟩ rfl rfl
    ·have hb10':=ab hb10
     iterate 6 refine w_ ?_
     obtain ⟨ar,hx12⟩:∃z,c.2.2[i]? =some z:=⟨_,aa (by omega)⟩
     have hain:=hr _ (aj hx12)
     obtain ⟨⟨ha1,ha2⟩,ha3,ha4⟩:=hain
     have hlab:=(hs.arcs _ (aj hx12)).2
     have hslt:ar.2.1 < (c.1.length:Int):=Qdv hlab
     have har:=hx12
     iterate 2 refine w_ ?_
     refine lc (xal 5 (.pr .int (.pr .int (.pr .bool .int))) ZJ) ?_
     iterate 6 refine w_ ?_
     refine alI 34 fun hi13=> ?_
     iterate 3 refine w_ ?_
     cases hb14:(decide (ar.1=(k:Int)))
     ·have hb14':=ae hb14
      iterate 18 refine w_ ?_
      refine Qt rfl rfl rfl ?_ rfl
      refine Qt rfl rfl rfl ?_ rfl
      refine Qt rfl rfl rfl ?_ rfl
      refine Qt rfl rfl rfl ?_ rfl
      iterate 4 refine w_ ?_
      refine AC.skip ?_
      refine (?_:AC _ _ _ _ _)
      iterate 3 refine w_ ?_
      refine Qc ?_
      refine l0_ ?_
      exact Wk.of [] rfl ⟨rfl,rfl,rfl,rfl,rfl,rfl,rfl,rfl,rfl,rfl,rfl,rfl,rfl,rfl,rfl,rfl,rfl,rfl,rfl,rfl,rfl,rfl,rfl,rfl,trivial⟩ ⟨rfl,(Qj (by first | exact ZB (ZZ har (by assumption) (Wr (by assumption) (by assumption) (by assumption))) | exact ZB (ZZ har (by assumption) (Wl (by assumption) (by assumption) (by assumption))) | exact congrArg _ (Q0 (Zc har fun g=>absurd g.1 (by assumption))) | exact congrArg _ (Q0 (Zc har fun g=>absurd ((Wo (by assumption)).symm.trans g.2) (by decide))) | exact congrArg _ (Q0 (Zc har fun g=>absurd ((X2 (by assumption)).symm.trans g.2) (by decide))) | exact congrArg _ (Q0 (Zc har fun g=>absurd ((X7 (by assumption) (by assumption)).symm.trans g.2) (by decide))))),trivial⟩ rfl rfl
     ·have hb14':=ab hb14
      iterate 6 refine w_ ?_
      cases hb15:(!decide (ar.2.1=(j:Int)))
      ·have hb15':(ar.2.1=(j:Int)):=QV hb15
       iterate 12 refine w_ ?_
       refine Qt rfl rfl rfl ?_ rfl
       refine Qt rfl rfl rfl ?_ rfl
       refine Qt rfl rfl rfl ?_ rfl
       refine Qt rfl rfl rfl ?_ rfl
       iterate 4 refine w_ ?_
       refine AC.skip ?_
       refine (?_:AC _ _ _ _ _)
       iterate 3 refine w_ ?_
       refine Qc ?_
       refine l0_ ?_
       exact Wk.of [] rfl ⟨rfl,rfl,rfl,rfl,rfl,rfl,rfl,rfl,rfl,rfl,rfl,rfl,rfl,rfl,rfl,rfl,rfl,rfl,rfl,rfl,rfl,rfl,rfl,rfl,trivial⟩ ⟨rfl,(Qj (by first | exact ZB (ZZ har (by assumption) (Wr (by assumption) (by assumption) (by assumption))) | exact ZB (ZZ har (by assumption) (Wl (by assumption) (by assumption) (by assumption))) | exact congrArg _ (Q0 (Zc har fun g=>absurd g.1 (by assumption))) | exact congrArg _ (Q0 (Zc har fun g=>absurd ((Wo (by assumption)).symm.trans g.2) (by decide))) | exact congrArg _ (Q0 (Zc har fun g=>absurd ((X2 (by assumption)).symm.trans g.2) (by decide))) | exact congrArg _ (Q0 (Zc har fun g=>absurd ((X7 (by assumption) (by assumption)).symm.trans g.2) (by decide))))),trivial⟩ rfl rfl
      ·have hb15':¬(ar.2.1=(j:Int)):=Za hb15
       iterate 4 refine w_ ?_
       refine lgy rfl rfl (dK (Zd c ar.2.2.2 (j:Int)) Yy) ?_
       iterate 3 refine w_ ?_
       cases hb16:(QH c ar.2.2.2 (j:Int))
       ·iterate 2 refine w_ ?_
        refine lgy rfl rfl (dK (WN c (j:Int) (by omega)) Km) ?_
        refine w_ ?_
        cases hb17:(QE c (j:Int))
        ·iterate 13 refine w_ ?_
         refine lc (Qm H8 ⟨_,_,rfl,(Ql rfl),⟨_,_,rfl,(Ql rfl),⟨_,_,rfl,(Ql rfl),rfl⟩⟩⟩ (aA.1 rfl) rfl rfl) ?_
         refine lc (dBs 6 (e:=(.pr .int (.pr .int .int))) Up (hab:=by exact ⟨_,_,_,_,rfl,⟨[dI (k:Int)],[dI (j:Int),dI (i:Int)],_,_,_,_,rfl,rfl,⟨rfl,rfl⟩,⟨[dI (j:Int)],[dI (i:Int)],_,_,_,_,rfl,rfl,⟨rfl,rfl⟩,⟨rfl,rfl⟩,rfl⟩,rfl⟩,⟨rfl,rfl⟩,rfl⟩)) ?_
         refine lc (dA 7 Qae) ?_
         refine w_ ?_
         refine Qc ?_
         refine (?_:AC _ _ _ _ _)
         iterate 3 refine w_ ?_
         refine Qc ?_
         refine l0_ ?_
         exact Wk.of [(4,7)] rfl ⟨rfl,rfl,rfl,rfl,rfl,rfl,rfl,rfl,rfl,rfl,rfl,rfl,rfl,rfl,rfl,rfl,rfl,rfl,rfl,rfl,rfl,rfl,rfl,rfl,trivial⟩ ⟨rfl,(Qj (by first | exact ZB (ZZ har (by assumption) (Wr (by assumption) (by assumption) (by assumption))) | exact ZB (ZZ har (by assumption) (Wl (by assumption) (by assumption) (by assumption))) | exact congrArg _ (Q0 (Zc har fun g=>absurd g.1 (by assumption))) | exact congrArg _ (Q0 (Zc har fun g=>absurd ((Wo (by assumption)).symm.trans g.2) (by decide))) | exact congrArg _ (Q0 (Zc har fun g=>absurd ((X2 (by assumption)).symm.trans g.2) (by decide))) | exact congrArg _ (Q0 (Zc har fun g=>absurd ((X7 (by assumption) (by assumption)).symm.trans g.2) (by decide))))),trivial⟩ rfl rfl
        ·iterate 3 refine w_ ?_
         refine lgy rfl rfl (dK (WN c ar.2.1 (by omega)) Km) ?_
         iterate 3 refine w_ ?_
         cases hb18:(QE c ar.2.1)
         ·iterate 6 refine w_ ?_
          refine lc (Qm H8 ⟨_,_,rfl,(Ql rfl),⟨_,_,rfl,(Ql rfl),⟨_,_,rfl,(Ql rfl),rfl⟩⟩⟩ (aA.1 rfl) rfl rfl) ?_
          refine lc (dBs 8 (e:=(.pr .int (.pr .int .int))) Up (hab:=by exact ⟨_,_,_,_,rfl,⟨[dI (k:Int)],[dI (j:Int),dI (i:Int)],_,_,_,_,rfl,rfl,⟨rfl,rfl⟩,⟨[dI (j:Int)],[dI (i:Int)],_,_,_,_,rfl,rfl,⟨rfl,rfl⟩,⟨rfl,rfl⟩,rfl⟩,rfl⟩,⟨rfl,rfl⟩,rfl⟩)) ?_
          refine lc (dA 9 Qae) ?_
          refine w_ ?_
          refine Qc ?_
          refine (?_:AC _ _ _ _ _)
          iterate 3 refine w_ ?_
          refine Qc ?_
          refine l0_ ?_
          exact Wk.of [(4,9)] rfl ⟨rfl,rfl,rfl,rfl,rfl,rfl,rfl,rfl,rfl,rfl,rfl,rfl,rfl,rfl,rfl,rfl,rfl,rfl,rfl,rfl,rfl,rfl,rfl,rfl,trivial⟩ ⟨rfl,(Qj (by first | exact ZB (ZZ har (by assumption) (Wr (by assumption) (by assumption) (by assumption))) | exact ZB (ZZ har (by assumption) (Wl (by assumption) (by assumption) (by assumption))) | exact congrArg _ (Q0 (Zc har fun g=>absurd g.1 (by assumption))) | exact congrArg _ (Q0 (Zc har fun g=>absurd ((Wo (by assumption)).symm.trans g.2) (by decide))) | exact congrArg _ (Q0 (Zc har fun g=>absurd ((X2 (by assumption)).symm.trans g.2) (by decide))) | exact congrArg _ (Q0 (Zc har fun g=>absurd ((X7 (by assumption) (by assumption)).symm.trans g.2) (by decide))))),trivial⟩ rfl rfl
         ·refine w_ ?_
          refine AC.skip ?_
          refine (?_:AC _ _ _ _ _)
          iterate 3 refine w_ ?_
          refine Qc ?_
          refine l0_ ?_
          exact Wk.of [] rfl ⟨rfl,rfl,rfl,rfl,rfl,rfl,rfl,rfl,rfl,rfl,rfl,rfl,rfl,rfl,rfl,rfl,rfl,rfl,rfl,rfl,rfl,rfl,rfl,rfl,trivial⟩ ⟨rfl,(Qj (by first | exact ZB (ZZ har (by assumption) (Wr (by assumption) (by assumption) (by assumption))) | exact ZB (ZZ har (by assumption) (Wl (by assumption) (by assumption) (by assumption))) | exact congrArg _ (Q0 (Zc har fun g=>absurd g.1 (by assumption))) | exact congrArg _ (Q0 (Zc har fun g=>absurd ((Wo (by assumption)).symm.trans g.2) (by decide))) | exact congrArg _ (Q0 (Zc har fun g=>absurd ((X2 (by assumption)).symm.trans g.2) (by decide))) | exact congrArg _ (Q0 (Zc har fun g=>absurd ((X7 (by assumption) (by assumption)).symm.trans g.2) (by decide))))),trivial⟩ rfl rfl
       ·iterate 4 refine w_ ?_
        refine Qt rfl rfl rfl ?_ rfl
        refine Qt rfl rfl rfl ?_ rfl
        refine Qt rfl rfl rfl ?_ rfl
        refine Qt rfl rfl rfl ?_ rfl
        iterate 4 refine w_ ?_
        refine AC.skip ?_
        refine (?_:AC _ _ _ _ _)
        iterate 3 refine w_ ?_
        refine Qc ?_
        refine l0_ ?_
        exact Wk.of [] rfl ⟨rfl,rfl,rfl,rfl,rfl,rfl,rfl,rfl,rfl,rfl,rfl,rfl,rfl,rfl,rfl,rfl,rfl,rfl,rfl,rfl,rfl,rfl,rfl,rfl,trivial⟩ ⟨rfl,(Qj (by first | exact ZB (ZZ har (by assumption) (Wr (by assumption) (by assumption) (by assumption))) | exact ZB (ZZ har (by assumption) (Wl (by assumption) (by assumption) (by assumption))) | exact congrArg _ (Q0 (Zc har fun g=>absurd g.1 (by assumption))) | exact congrArg _ (Q0 (Zc har fun g=>absurd ((Wo (by assumption)).symm.trans g.2) (by decide))) | exact congrArg _ (Q0 (Zc har fun g=>absurd ((X2 (by assumption)).symm.trans g.2) (by decide))) | exact congrArg _ (Q0 (Zc har fun g=>absurd ((X7 (by assumption) (by assumption)).symm.trans g.2) (by decide))))),trivial⟩ rfl rfl
theorem HO (c:(List (ByteArray×Int))×List ByteArray×(List (Int×Int×Bool×Int)))(hn:c.2.1.length≤300):FC Tryz.prog 437 [(true,[.dat (.sl 44 (.pr .str .int)) c.1, .dat (.sl 9 .str) c.2.1, .dat (.sl 46 (.pr .int (.pr .int (.pr .bool .int)))) c.2.2])] [] 0 (Yo 32 (.sl 3 .int) (ZI c (fun _ _=>true) c.2.1.length)):=by
 refine Qn Tryz.func437 rfl rfl Tryz.ntmps437 fun O_ hO w0_ N0_ X_ h0_ f0_=> ?_
 refine w_ ?_
 refine xbx 0 ?_
 iterate 9 refine w_ ?_
 refine alL 7 fun hl1=> ?_
 iterate 4 refine w_ ?_
 refine AC.wk (Wk.nilS 1 3 32 (.sl 3 .int) rfl (Fresh.of rfl) (nlr rfl)) ?_
 refine lp0 c.2.1.length (fun i=>⟨[(1,lP 0 0),(2,lf (.val (.slice none 0 0))),(3,lR 2),(8,lI (c.2.1.length:Int)),(9,lI (i:Int))],[bx 0 27 [.dat (.sl 44 (.pr .str .int)) c.1, .dat (.sl 9 .str) c.2.1, .dat (.sl 46 (.pr .int (.pr .int (.pr .bool .int)))) c.2.2],ar 2 32 (.sl 3 .int) (ZI c (fun _ _=>true) i)]⟩) ?_ fun i hk2=> ?_
 · exact Wk.of [(2,1)] rfl ⟨rfl,rfl,rfl,rfl,rfl,trivial⟩ ⟨rfl,(Qj (rfl)),trivial⟩ rfl rfl
 have hal:=KM (c:=c) (f:=fun _ _=>true) (i:=i) hn
 iterate 4 refine w_ ?_
 cases hb3:(decide ((i:Int) < (c.2.1.length:Int)))
 ·have hb3':=ae hb3
  refine w_ ?_
  refine Qh ?_
  refine (?_:AC _ _ _ _ _)
  iterate 4 refine w_ ?_
  refine Qb<|fo_ hO ?_
  (congr 1; omega)
 ·have hb3':=ab hb3
  iterate 14 refine w_ ?_
  refine QK (fun m_ s_=>∃(m:Int) (out:List (List Int)),m_=((c.2.1.length:Int) - m).toNat∧((i:Int)+1≤m∧m≤(c.2.1.length:Int))∧(out=ZI c (fun _ _=>true) i++Y9 c (fun _ _=>true) i m.toNat)∧s_=⟨[(1,lP 0 0),(2,lf (.val (.slice none 0 0))),(3,lR 3),(4,lI (i:Int)),(5,lI m),(8,lI (c.2.1.length:Int)),(9,lI (i:Int)),(10,lB true),(11,lI (i:Int)),(12,lI (i:Int)),(13,lI ((i:Int)+1))],[bx 0 27 [.dat (.sl 44 (.pr .str .int)) c.1, .dat (.sl 9 .str) c.2.1, .dat (.sl 46 (.pr .int (.pr .int (.pr .bool .int)))) c.2.2],ar 3 32 (.sl 3 .int) out]⟩) ⟨(i:Int)+1,ZI c (fun _ _=>true) i,rfl,(by omega),(by rw[show ((i:Int)+1).toNat=i+1 by omega,Qa6,bn]),rfl⟩ ?_ ?_
  · exact Wk.of [(3,2)] rfl ⟨rfl,rfl,rfl,rfl,rfl,rfl,rfl,rfl,rfl,rfl,rfl,trivial⟩ ⟨rfl,(Qj (by first | rfl | simp)),trivial⟩ rfl rfl
  rintro m_ s_ ⟨m,out,hm5,hm,hO1,rfl⟩
  have hol:out.length≤100000:=by rw[hO1,ao]; have:=Qb5 (c:=c) (f:=fun _ _=>true) (i:=i) (k:=m.toNat); have:=hal (by omega); omega
  iterate 5 refine w_ ?_
  refine alL 16 fun hl6=> ?_
  iterate 3 refine w_ ?_
  cases hb7:(decide (m < (c.2.1.length:Int)))
  ·have hb7':=ae hb7
   refine w_ ?_
   refine Qh ?_
   refine (?_:AC _ _ _ _ _)
   iterate 3 refine w_ ?_
   refine Qc ?_
   refine l0_ ?_
   exact Wk.of [(2,3)] rfl ⟨rfl,rfl,rfl,rfl,rfl,trivial⟩ ⟨rfl,(Qj ((by rw[hO1]; exact QoI (by omega) (by omega)))),trivial⟩ rfl rfl
  ·have hb7':=ab hb7
   iterate 4 refine w_ ?_
   obtain ⟨ci,hx9⟩:∃z,c.2.1[i]? =some z:=⟨_,aa (by omega)⟩
   have hci:=hx9
   obtain ⟨cm,hx11⟩:∃z,c.2.1[(m).toNat]? =some z:=⟨_,aa (by omega)⟩
   have hcm:=hx11
   apply dW (i9 21 _ _ _ _ _ _ _ _ _ (i2 30 _ _ [])) [0,0,3,0,0,31,31,127,31,31,0]
   iterate 11 refine z_ ?_
   exact zN
   cases hb12:(decide (ci=cm))
   ·have hb12':=ae hb12
    refine w_ ?_
    refine AC.skip ?_
    refine (?_:AC _ _ _ _ _)
    iterate 4 refine w_ ?_
    refine Qc<|Zq ⟨(m+1),out,rfl,(by omega),(by rw[hO1]; first | exact QiF (by omega) hcm hci (by assumption) | exact Qnw (by omega) hcm hci (by assumption)),rfl⟩ (by omega) ?_
    exact Wk.of [] rfl ⟨rfl,rfl,rfl,rfl,rfl,rfl,rfl,rfl,rfl,rfl,rfl,trivial⟩ ⟨rfl,rfl,trivial⟩ rfl rfl
   ·have hb12':=ab hb12
    iterate 5 refine w_ ?_
    refine lc (dBs 4 (e:= .int) ZL) ?_
    refine lc (dBs 5 (e:=(.sl 3 .int)) YW (hab:=by exact ⟨_,_,_,_,rfl,(.inl ⟨_,rfl,rfl,rfl⟩),⟨rfl,rfl⟩,rfl⟩)) ?_
    refine lc (dA 6 Kg) ?_
    refine w_ ?_
    refine Qc ?_
    refine (?_:AC _ _ _ _ _)
    iterate 4 refine w_ ?_
    refine Qc<|Zq ⟨(m+1),(out++([[(i:Int),m]])),rfl,(by omega),(by rw[hO1]; first | exact QiF (by omega) hcm hci (by assumption) | exact Qnw (by omega) hcm hci (by assumption)),rfl⟩ (by omega) ?_
    exact Wk.of [(3,6)] rfl ⟨rfl,rfl,rfl,rfl,rfl,rfl,rfl,rfl,rfl,rfl,rfl,trivial⟩ ⟨rfl,(Qj (by first | rfl | simp)),trivial⟩ rfl rfl
theorem UN (c:(List (ByteArray×Int))×List ByteArray×(List (Int×Int×Bool×Int)))(hs:SgW c):FC Tryz.prog 379 [(true,[.dat (.sl 44 (.pr .str .int)) c.1, .dat (.sl 9 .str) c.2.1, .dat (.sl 46 (.pr .int (.pr .int (.pr .bool .int)))) c.2.2])] [] 0 (QY (lf (.dat (.sl 32 (.sl 3 .int)) (Wy c)))):=by
 have hr:∀a∈c.2.2,InR c.2.1.length a:=fun a ha=>(hs.arcs a ha).1
 have hn3:=hs.some_
 have hfw:=hs.few
 have h8:=hs.sig8
 have hpl:=KM (c:=c) (f:=fun _ _=>true) (i:=c.2.1.length) (by omega) (aQ _)
 have hol:=JX (ss:=c.1) (k:=c.1.length)
 refine Qn Tryz.func379 rfl rfl Tryz.ntmps379 fun O_ hO w0_ N0_ X_ h0_ f0_=> ?_
 refine w_ ?_
 refine xbx 0 ?_
 iterate 6 refine w_ ?_
 refine Zv<|AC.wk (Wk.nilS 1 3 32 (.sl 3 .int) rfl (Fresh.of rfl) (nlr rfl))<|AC.wk (Wk.toFz (q:=1) rfl) ?_
 iterate 2 refine w_ ?_
 refine lc (dK (HO c (by omega)).frozen QfT) ?_
 refine alL 10 fun hl1=> ?_
 iterate 4 refine w_ ?_
 refine lp0 ((ZI c (fun _ _=>true) c.2.1.length).length) (fun k=>⟨[(1,lP 0 0),(2,lf (.val (.slice none 0 0))),(3,lR 2),(10,lf (.dat (.sl 32 (.sl 3 .int)) (ZI c (fun _ _=>true) c.2.1.length))),(11,lI ((ZI c (fun _ _=>true) c.2.1.length).length:Int)),(12,lI (k:Int))],[bx 0 27 [.dat (.sl 44 (.pr .str .int)) c.1, .dat (.sl 9 .str) c.2.1, .dat (.sl 46 (.pr .int (.pr .int (.pr .bool .int)))) c.2.2],(2,some (.fz 32 (.sl 3 .int) (((ZI c (fun _ _=>true) c.2.1.length).take k).filter (Qkh c))))]⟩) ?_ fun k hk2=> ?_
 · exact Wk.of [(2,1)] rfl ⟨rfl,rfl,rfl,rfl,rfl,rfl,trivial⟩ ⟨rfl,(Qkx (rfl)),trivial⟩ rfl rfl
 have hfl:=bX (Qkh c) ((ZI c (fun _ _=>true) c.2.1.length).take k)
 have htl:((ZI c (fun _ _=>true) c.2.1.length).take k).length≤(ZI c (fun _ _=>true) c.2.1.length).length:=by simp only[aw]; omega
 iterate 4 refine w_ ?_
 cases hb3:(decide ((k:Int) < ((ZI c (fun _ _=>true) c.2.1.length).length:Int)))
 ·have hb3':=ae hb3
  refine w_ ?_
  refine Qh ?_
  refine (?_:AC _ _ _ _ _)
  iterate 4 refine w_ ?_
  refine AC.wk (Qbb (i:=2) (q:=2) rfl rfl)<|Qb<|fq_ hO ?_
  first | (rw[QO (by omega)]; exact QmA)
 ·have hb3':=ab hb3
  iterate 5 refine w_ ?_
  obtain ⟨pz,hx5⟩:∃z,(ZI c (fun _ _=>true) c.2.1.length)[k]? =some z:=⟨_,aa (by omega)⟩
  obtain ⟨i0,j0,hpz⟩:=Qoa hx5
  have hpl2:pz.length=2:=by rw[hpz]; rfl
  iterate 10 refine w_ ?_
  refine lc (dK (VH c (by omega)).frozen QaK) ?_
  refine alL 17 fun hl6=> ?_
  iterate 4 refine w_ ?_
  refine lp0 ((QQ c.1 c.1.length).length) (fun j=>⟨[(1,lP 0 0),(2,lf (.val (.slice none 0 0))),(3,lR 2),(5,lf (.dat (.sl 3 .int) pz)),(6,lB (((QQ c.1 c.1.length).take j).any (fun s=> !(QH c (i0:Int) s==QH c (j0:Int) s)))),(10,lf (.dat (.sl 32 (.sl 3 .int)) (ZI c (fun _ _=>true) c.2.1.length))),(11,lI ((ZI c (fun _ _=>true) c.2.1.length).length:Int)),(12,lI (k:Int)),(13,lB true),(14,lf (.elt (.sl 3 .int) pz 0)),(15,lf (.dat (.sl 3 .int) pz)),(16,ag [.dat (.sl 44 (.pr .str .int)) c.1, .dat (.sl 9 .str) c.2.1, .dat (.sl 46 (.pr .int (.pr .int (.pr .bool .int)))) c.2.2]),(17,lf (.dat (.sl 3 .int) (QQ c.1 c.1.length))),(18,lI ((QQ c.1 c.1.length).length:Int)),(19,lI (j:Int))],[bx 0 27 [.dat (.sl 44 (.pr .str .int)) c.1, .dat (.sl 9 .str) c.2.1, .dat (.sl 46 (.pr .int (.pr .int (.pr .bool .int)))) c.2.2],(2,some (.fz 32 (.sl 3 .int) (((ZI c (fun _ _=>true) c.2.1.length).take k).filter (Qkh c))))]⟩) ?_ fun j hk8=> ?_
  · exact Wk.of [] rfl ⟨rfl,rfl,rfl,rfl,(show some (lB false)=some (lB (((QQ c.1 c.1.length).take 0).any (fun s=> !(QH c (i0:Int) s==QH c (j0:Int) s)))) from congrArg (fun z_=>some (lB z_)) (rfl)),rfl,rfl,rfl,rfl,rfl,rfl,rfl,rfl,rfl,rfl,trivial⟩ ⟨rfl,rfl,trivial⟩ rfl rfl
  iterate 4 refine w_ ?_
  cases hb9:(decide ((j:Int) < ((QQ c.1 c.1.length).length:Int)))
  ·have hb9':=ae hb9
   refine w_ ?_
   refine Qh ?_
   refine (?_:AC _ _ _ _ _)
   iterate 3 refine w_ ?_
   cases hb10:(((QQ c.1 c.1.length).take j).any (fun s=> !(QH c (i0:Int) s==QH c (j0:Int) s)))
   ·refine w_ ?_
    refine AC.skip ?_
    refine (?_:AC _ _ _ _ _)
    iterate 3 refine w_ ?_
    refine Qc ?_
    refine l0_ ?_
    exact Wk.of [] rfl ⟨rfl,rfl,rfl,rfl,rfl,rfl,trivial⟩ ⟨rfl,(Qkx (by first | exact Qiq hx5 (Jp (k:=j) hpz (by omega) (by assumption)) | exact Qml hx5 (Jp (k:=j) hpz (by omega) (by assumption)))),trivial⟩ rfl rfl
   ·iterate 4 refine w_ ?_
    refine lc (Jl 3 Xp Yt YW (Ql rfl) (by (rw[hpz]; simp)) rfl (Fresh.of rfl) (nlr rfl))<|lc (UZ 4 (Qa rfl) rfl (Qa rfl) rfl Xp Kg (by first | omega | (simp only[ao,aN,aw,ax,aK]; omega) | (simp only[ao,bu,aw,ax,aK]; omega)) rfl (Fresh.of rfl) (nlr rfl)) ?_
    refine w_ ?_
    refine Qc ?_
    refine (?_:AC _ _ _ _ _)
    iterate 3 refine w_ ?_
    refine Qc ?_
    refine l0_ ?_
    exact Wk.of [(2,4)] rfl ⟨rfl,rfl,rfl,rfl,rfl,rfl,trivial⟩ ⟨rfl,(Qkx (by first | exact Qiq hx5 (Jp (k:=j) hpz (by omega) (by assumption)) | exact Qml hx5 (Jp (k:=j) hpz (by omega) (by assumption)))),trivial⟩ rfl rfl
  ·have hb9':=ab hb9
   iterate 5 refine w_ ?_
   obtain ⟨sg,hx12⟩:∃z,(QQ c.1 c.1.length)[j]? =some z:=⟨_,aa (by omega)⟩
   iterate 2 refine w_ ?_
   refine alI 22 fun hi13=> ?_
   iterate 2 refine w_ ?_
   cases hb14:(((QQ c.1 c.1.length).take j).any (fun s=> !(QH c (i0:Int) s==QH c (j0:Int) s)))
   ·apply dV (i4 23 _ _ _ _ (io 27 (lf (.elt .int (i0:Int) 0)) :: i2 28 _ _ (io 30 (lB (QH c (i0:Int) sg)) :: i2 31 _ _ (io 33 (lf (.elt .int (j0:Int) 0)) :: i2 34 _ _ [io 36 (lB (QH c (j0:Int) sg)),io 37 (lB (!((QH c (i0:Int) sg)==(QH c (j0:Int) sg)))),io 38 _,io 6 _])))) [0,0,0,4,4,4,60,0,252,508,508,508,4092,0,0,0,0]
    iterate 4 refine z_ ?_
    refine zz (fun _ h_=>day rfl (h_.k rfl) (WH (h_.v rfl) (Qk rfl) Q9 Zn rfl (by omega) (by rw[hpz]; rfl)) rfl) ?_
    iterate 2 refine z_ ?_
    refine zz (fun _ h_=>day rfl (h_.k rfl) (dK (Zd c (i0:Int) sg) Yy) rfl) ?_
    iterate 2 refine z_ ?_
    refine zz (fun _ h_=>day rfl (h_.k rfl) (WH (h_.v rfl) (Qk rfl) Q9 Zn rfl (by omega) (by rw[hpz]; rfl)) rfl) ?_
    iterate 2 refine z_ ?_
    refine zz (fun _ h_=>day rfl (h_.k rfl) (dK (Zd c (j0:Int) sg) Yy) rfl) ?_
    refine zz (fun _ h_=>day rfl (h_.k rfl) (Y5 (h_.v rfl) (h_.v rfl) rfl WY) rfl) ?_
    iterate 2 refine z_ ?_
    exact zN
    refine (?_:AC _ _ _ _ _)
    iterate 3 refine w_ ?_
    refine Qc ?_
    refine l0_ ?_
    exact Wk.of [] rfl ⟨rfl,rfl,rfl,rfl,(show some (lB (!((QH c (i0:Int) sg)==(QH c (j0:Int) sg))))=some (lB (((QQ c.1 c.1.length).take (j+1)).any (fun s=> !(QH c (i0:Int) s==QH c (j0:Int) s)))) from congrArg (fun z_=>some (lB z_)) (by first | exact Qkz hx12 (by assumption) | exact QkP hx12 (by assumption))),rfl,rfl,rfl,rfl,rfl,rfl,rfl,rfl,rfl,rfl,trivial⟩ ⟨rfl,rfl,trivial⟩ rfl rfl
   ·apply dV (i9 23 _ _ _ _ _ _ _ _ _ (i7 32 _ _ _ _ _ _ _ [io 6 _])) [0,0,0,4,4,4,60,0,252,508,508,508,4092,0,0,0,0]
    iterate 17 refine z_ ?_
    exact zN
    refine (?_:AC _ _ _ _ _)
    iterate 3 refine w_ ?_
    refine Qc ?_
    refine l0_ ?_
    exact Wk.of [] rfl ⟨rfl,rfl,rfl,rfl,(show some (lB true)=some (lB (((QQ c.1 c.1.length).take (j+1)).any (fun s=> !(QH c (i0:Int) s==QH c (j0:Int) s)))) from congrArg (fun z_=>some (lB z_)) (by first | exact Qkz hx12 (by assumption) | exact QkP hx12 (by assumption))),rfl,rfl,rfl,rfl,rfl,rfl,rfl,rfl,rfl,rfl,trivial⟩ ⟨rfl,rfl,trivial⟩ rfl rfl
theorem UP (a:Int×Int×Bool×Int):FC Tryz.prog 480 [(true,[dI a.1,dI a.2.1,dB a.2.2.1,dI a.2.2.2])] [] 0 (QY (lB (decide (a.2.1= -1)))):=by
 refine Qn Tryz.func480 rfl rfl Tryz.ntmps480 fun O_ hO w0_ N0_ X_ h0_ f0_=> ?_
 refine acG 0 0 fun hi1=> ?_
 refine acG 0 1 fun hi2=> ?_
 refine acG 0 3 fun hi3=> ?_
 refine w_ ?_
 refine xbx 0 ?_
 iterate 8 refine w_ ?_
 refine Qb<|fqB hO ?_
 rfl
theorem Uh (l:List (Int×Int×Bool×Int)):FC Tryz.prog 313 [(false,[.dat (.sl 46 (.pr .int (.pr .int (.pr .bool .int)))) l]),(false,[.clo 480 []])] [] 0 (QY (lI (Zp (fun a:DAr=>decide (a.2.1= -1)) l))):=by
 refine Qn Tryz.func313 rfl rfl Tryz.ntmps313 fun O_ hO w0_ N0_ X_ h0_ f0_=> ?_
 iterate 6 refine w_ ?_
 refine alL 6 fun hl1=> ?_
 iterate 4 refine w_ ?_
 refine lpK l.length (fun k=>NoneTo (fun a:DAr=>decide (a.2.1= -1)) l k) (fun k=>⟨[(0,lf (.dat (.sl 46 (.pr .int (.pr .int (.pr .bool .int)))) l)),(1,lf (.clo 480 [])),(7,lI (l.length:Int)),(8,lI (k:Int))],[]⟩) (NoneTo.zero) ?_ fun k hk2 hno=> ?_
 · exact Wk.of [] rfl ⟨rfl,rfl,rfl,rfl,trivial⟩ trivial rfl rfl
 iterate 4 refine w_ ?_
 cases hb3:(decide ((k:Int) < (l.length:Int)))
 ·have hb3':=ae hb3
  refine w_ ?_
  refine Qh ?_
  refine (?_:AC _ _ _ _ _)
  iterate 3 refine w_ ?_
  refine Qb<|fqI hO ?_
  first | exact (hno.no (by omega)).symm
 ·have hb3':=ab hb3
  iterate 12 refine w_ ?_
  obtain ⟨x4,hx5⟩:∃z,l[k]? =some z:=⟨_,aa (by omega)⟩
  iterate 2 refine w_ ?_
  refine lc (Yd (args0:=[(true,[dI x4.1,dI x4.2.1,dB x4.2.2.1,dI x4.2.2.2])]) (caps:=[]) 0 [] (UP x4) QgT rfl (Qa rfl) rfl rfl ⟨_,_,rfl,(Ql rfl),rfl⟩ trivial rfl trivial (nlr rfl)) ?_
  refine w_ ?_
  cases hb6:(decide (x4.2.1= -1))
  ·have hb6':=ae hb6
   refine w_ ?_
   refine AC.skip ?_
   refine (?_:AC _ _ _ _ _)
   iterate 3 refine w_ ?_
   refine Qc ?_
   refine lK_ (hno.step hx5 (by first | assumption | (simp[*]; done))) ?_
   exact Wk.of [] rfl ⟨rfl,rfl,rfl,rfl,trivial⟩ trivial rfl rfl
  ·have hb6':=ab hb6
   iterate 5 refine w_ ?_
   refine Qb<|fqI hO ?_
   exact (hno.at hx5 (by first | assumption | (simp[*]; done))).symm
theorem W5 (l:List (Int×Int×Bool×Int)):FC Tryz.prog 203 [(false,[.dat (.sl 46 (.pr .int (.pr .int (.pr .bool .int)))) l]),(false,[.clo 480 []])] [] 0 (QY (lB (l.any (fun a:DAr=>decide (a.2.1= -1))))):=by
 refine Qn Tryz.func203 rfl rfl Tryz.ntmps203 fun O_ hO w0_ N0_ X_ h0_ f0_=> ?_
 iterate 6 refine w_ ?_
 refine lc (dK (Uh l) Qca) ?_
 iterate 3 refine w_ ?_
 refine Qb<|fqB hO ?_
 exact Um _ _
theorem KX (c:(List (ByteArray×Int))×List ByteArray×(List (Int×Int×Bool×Int)))(hs:SgOk c):FC Tryz.prog 468 [(true,[.dat (.sl 44 (.pr .str .int)) c.1, .dat (.sl 9 .str) c.2.1, .dat (.sl 46 (.pr .int (.pr .int (.pr .bool .int)))) c.2.2])] [] 0 (QY (lf (dS (QG c)))):=by
 have hr:∀a∈c.2.2,InR c.2.1.length a:=fun a ha=>Yn (hs.arcs a ha)
 have hn3:=hs.some_
 have hfw:=hs.few
 have h8:=hs.sigs.2.2
 refine Qn Tryz.func468 rfl rfl Tryz.ntmps468 fun O_ hO w0_ N0_ X_ h0_ f0_=> ?_
 refine w_ ?_
 refine xbx 0 ?_
 iterate 7 refine w_ ?_
 refine lc (Vf (W5 c.2.2) Qbv ⟨_,_,rfl,(Ql rfl),⟨_,_,rfl,(Evl.ev QlS),rfl⟩⟩ rfl rfl) ?_
 iterate 2 refine w_ ?_
 cases hb1:(c.2.2.any (fun a:DAr=>decide (a.2.1= -1)))
 ·iterate 3 refine w_ ?_
  refine lc (dK (Hy c (by omega) (fun a ha=>QgF (hs.arcs a ha).2.2.1)).frozen Qhw) ?_
  refine alL 9 fun hl2=> ?_
  iterate 4 refine w_ ?_
  refine cd_ (fun hb3 hb3'=> ?_) fun hb3 hb3'=> ?_
  ·iterate 2 refine w_ ?_
   refine lc (dK (Kv c hs).frozen Qgn) ?_
   refine alL 14 fun hl4=> ?_
   iterate 4 refine w_ ?_
   refine cd_ (fun hb5 hb5'=> ?_) fun hb5 hb5'=> ?_
   ·iterate 2 refine w_ ?_
    refine lc (dK (KE c hs.w) Qhl) ?_
    refine alL 19 fun hl6=> ?_
    iterate 4 refine w_ ?_
    refine cd_ (fun hb7 hb7'=> ?_) fun hb7 hb7'=> ?_
    ·refine AC.skip ?_
     refine (?_:AC _ _ _ _ _)
     iterate 3 refine w_ ?_
     refine Qb<|fqS hO ?_
     exact Qq8 (by assumption) (by assumption) (Qmx hr (by assumption)) (by assumption)
    ·iterate 3 refine w_ ?_
     refine Qb<|fqS hO ?_
     exact Qrt (by assumption) (by assumption) (Qmx hr (by assumption)) (by assumption)
   ·iterate 3 refine w_ ?_
    refine Qb<|fqS hO ?_
    exact QqF (by assumption) (by assumption) (Qo2 hr (by assumption))
  ·iterate 3 refine w_ ?_
   refine Qb<|fqS hO ?_
   exact Qqt (by assumption) (by assumption)
 ·iterate 4 refine w_ ?_
  refine Qb<|fqS hO ?_
  exact Qq3 (by assumption)
theorem JS (c:(List (ByteArray×Int))×List ByteArray×(List (Int×Int×Bool×Int)))(hs:∀a∈c.2.2, -1≤a.2.1):FC Tryz.prog 376 [(true,[.dat (.sl 44 (.pr .str .int)) c.1, .dat (.sl 9 .str) c.2.1, .dat (.sl 46 (.pr .int (.pr .int (.pr .bool .int)))) c.2.2])] [] 0 (QY (lB (QdB c))):=by
 refine Qn Tryz.func376 rfl rfl Tryz.ntmps376 fun O_ hO w0_ N0_ X_ h0_ f0_=> ?_
 refine w_ ?_
 refine xbx 0 ?_
 iterate 6 refine w_ ?_
 refine alL 6 fun hl1=> ?_
 iterate 4 refine w_ ?_
 refine lpK c.2.2.length (fun k=>∀j,j < k→∀a,c.2.2[j]? =some a→¬a.2.1 < 0) (fun k=>⟨[(6,lf (.dat (.sl 46 (.pr .int (.pr .int (.pr .bool .int)))) c.2.2)),(7,lI (c.2.2.length:Int)),(8,lI (k:Int))],[]⟩) ((fun j hj=>absurd hj (br j))) ?_ fun k hk2 hno=> ?_
 · exact Wk.of [] rfl ⟨rfl,rfl,rfl,trivial⟩ trivial rfl rfl
 iterate 4 refine w_ ?_
 cases hb3:(decide ((k:Int) < (c.2.2.length:Int)))
 ·have hb3':=ae hb3
  refine w_ ?_
  refine Qh ?_
  refine (?_:AC _ _ _ _ _)
  iterate 3 refine w_ ?_
  refine Qb<|fqB hO ?_
  first | exact QpX hno (by omega)
 ·have hb3':=ab hb3
  iterate 5 refine w_ ?_
  obtain ⟨x4,hx5⟩:∃z,c.2.2[k]? =some z:=⟨_,aa (by omega)⟩
  have hmx4:=Qb2 hs hx5
  iterate 2 refine w_ ?_
  refine lc (xal 1 (.pr .int (.pr .int (.pr .bool .int))) ZJ) ?_
  iterate 5 refine w_ ?_
  refine alI 13 fun hi6=> ?_
  iterate 2 refine w_ ?_
  cases hb7:(decide (x4.2.1 < 0))
  ·have hb7':=ae hb7
   refine w_ ?_
   refine AC.skip ?_
   refine (?_:AC _ _ _ _ _)
   iterate 3 refine w_ ?_
   refine Qc ?_
   refine lK_ ((Y2 hno hx5 (by assumption))) ?_
   exact Wk.of [] rfl ⟨rfl,rfl,rfl,trivial⟩ trivial rfl rfl
  ·have hb7':=ab hb7
   iterate 4 refine w_ ?_
   refine Qb<|fqB hO ?_
   exact Qoe hx5 (by assumption) (by assumption)
theorem U1 (c:(List (ByteArray×Int))×List ByteArray×(List (Int×Int×Bool×Int)))(hs:SgW c):FC Tryz.prog 274 [(true,[.dat (.sl 44 (.pr .str .int)) c.1, .dat (.sl 9 .str) c.2.1, .dat (.sl 46 (.pr .int (.pr .int (.pr .bool .int)))) c.2.2])] [] 0 (QY (lf (dS (QG c)))):=by
 have hr:∀a∈c.2.2,InR c.2.1.length a:=fun a ha=>(hs.arcs a ha).1
 have hn3:=hs.some_
 have hfw:=hs.few
 have h8:=hs.sig8
 refine Qn Tryz.func274 rfl rfl Tryz.ntmps274 fun O_ hO w0_ N0_ X_ h0_ f0_=> ?_
 refine w_ ?_
 refine xbx 0 ?_
 iterate 6 refine w_ ?_
 refine lc (dK (JS c (fun a ha=>QgF (hs.arcs a ha).2)) Qhn) ?_
 iterate 2 refine w_ ?_
 refine cb_ (fun hb1=> ?_) fun hb1=> ?_
 ·iterate 2 refine w_ ?_
  refine lc (dK (Qbt c (by omega) (fun a ha=>QgF (hs.arcs a ha).2)).frozen Qg0) ?_
  refine alL 8 fun hl2=> ?_
  iterate 4 refine w_ ?_
  refine cd_ (fun hb3 hb3'=> ?_) fun hb3 hb3'=> ?_
  ·iterate 2 refine w_ ?_
   refine lc (dK (JB c hs).frozen Qf8) ?_
   refine alL 13 fun hl4=> ?_
   iterate 4 refine w_ ?_
   refine cd_ (fun hb5 hb5'=> ?_) fun hb5 hb5'=> ?_
   ·iterate 2 refine w_ ?_
    refine lc (dK (UN c hs) Qh3) ?_
    refine alL 18 fun hl6=> ?_
    iterate 4 refine w_ ?_
    refine cd_ (fun hb7 hb7'=> ?_) fun hb7 hb7'=> ?_
    ·refine AC.skip ?_
     refine (?_:AC _ _ _ _ _)
     iterate 3 refine w_ ?_
     refine Qb<|fqS hO ?_
     exact Qq8 (by assumption) (by assumption) (by assumption) (by assumption)
    ·iterate 3 refine w_ ?_
     refine Qb<|fqS hO ?_
     exact Qrt (by assumption) (by assumption) (by assumption) (by assumption)
   ·iterate 3 refine w_ ?_
    refine Qb<|fqS hO ?_
    exact QqF (by assumption) (by assumption) (by assumption)
  ·iterate 3 refine w_ ?_
   refine Qb<|fqS hO ?_
   exact Qqt (by assumption) (by assumption)
 ·iterate 3 refine w_ ?_
  refine Qb<|fqS hO ?_
  exact Qq3 (by assumption)
theorem JK (c:(List (ByteArray×Int))×List ByteArray×(List (Int×Int×Bool×Int)))[∀c,Decidable (SgOk c)]:FC Tryz.prog 440 [(true,[.dat (.sl 44 (.pr .str .int)) c.1, .dat (.sl 9 .str) c.2.1, .dat (.sl 46 (.pr .int (.pr .int (.pr .bool .int)))) c.2.2])] [] 0 (QY (PV.tup [(false,[dS (if SgOk c then QG c else ⟨#[]⟩)]),(false,[dB (decide (SgOk c))])])):=by
 refine Qn Tryz.func440 rfl rfl Tryz.ntmps440 fun O_ hO w0_ N0_ X_ h0_ f0_=> ?_
 refine w_ ?_
 refine xbx 0 ?_
 iterate 6 refine w_ ?_
 refine lc (dK (YH c) QaT) ?_
 iterate 2 refine w_ ?_
 cases hb1:(decide (SgOk c))
 ·have hb1':=ae hb1
  iterate 5 refine w_ ?_
  refine Qb ?_
  have e2:((⟨#[]⟩:ByteArray):ByteArray)=(if SgOk c then QG c else ⟨#[]⟩):=by
   (simp[*]; done)
  have e3:(false:Bool)=(decide (SgOk c)):=by
   (simp[*]; done)
  exact fr_ hO (e:=((congrArg (fun z_=>PV.tup [(false,[dS z_]),(false,[dB false])]) e2)).trans (congrArg (fun z_=>PV.tup [(false,[dS (if SgOk c then QG c else ⟨#[]⟩)]),(false,[dB z_])]) e3))
 ·have hb1':=ab hb1
  iterate 4 refine w_ ?_
  refine lc (dK (KX c (by assumption)) Qhe) ?_
  iterate 3 refine w_ ?_
  refine Qb ?_
  have e4:(QG c:ByteArray)=(if SgOk c then QG c else ⟨#[]⟩):=by
   (simp[*]; done)
  have e5:(true:Bool)=(decide (SgOk c)):=by
   (simp[*]; done)
  exact fr_ hO (e:=((congrArg (fun z_=>PV.tup [(false,[dS z_]),(false,[dB true])]) e4)).trans (congrArg (fun z_=>PV.tup [(false,[dS (if SgOk c then QG c else ⟨#[]⟩)]),(false,[dB z_])]) e5))
theorem W4 (c:(List (ByteArray×Int))×List ByteArray×(List (Int×Int×Bool×Int)))[∀c,Decidable (SgOk c)]:FC Tryz.prog 382 [(true,[.dat (.sl 44 (.pr .str .int)) c.1, .dat (.sl 9 .str) c.2.1, .dat (.sl 46 (.pr .int (.pr .int (.pr .bool .int)))) c.2.2])] [] 0 (QY (PV.tup [(false,[dB (decide ((if SgOk c then QG c else ⟨#[]⟩)=Qu))]),(false,[dB (decide (SgOk c))])])):=by
 refine Qn Tryz.func382 rfl rfl Tryz.ntmps382 fun O_ hO w0_ N0_ X_ h0_ f0_=> ?_
 refine w_ ?_
 refine xbx 0 ?_
 iterate 5 refine w_ ?_
 refine lc (dK (JK c) Qf1) ?_
 iterate 13 refine w_ ?_
 refine Qb ?_
 have e1:(decide ((if SgOk c then QG c else ⟨#[]⟩)=(⟨#[109,97,100,101]⟩:ByteArray)):Bool)=(decide ((if SgOk c then QG c else ⟨#[]⟩)=Qu)):=by
  rfl
 exact fr_ hO (e:=(congrArg (fun z_=>PV.tup [(false,[dB z_]),(false,[dB (decide (SgOk c))])]) e1))
theorem QoS {c:DSg}[Decidable (SgOk c)](h:SgOk c):decide ((if SgOk c then QG c else ⟨#[]⟩)=Qu)=decide (SgOk c∧QG c=Qu):=by rw[if_pos h]; simp[h]
theorem Qqf {c:DSg}[Decidable (SgOk c)](h:¬SgOk c):false=decide (SgOk c∧QG c=Qu):=(aF fun g=>h g.1).symm
theorem QbF (c:(List (ByteArray×Int))×List ByteArray×(List (Int×Int×Bool×Int)))[∀c,Decidable (SgOk c)]:FC Tryz.prog 278 [(true,[.dat (.sl 44 (.pr .str .int)) c.1, .dat (.sl 9 .str) c.2.1, .dat (.sl 46 (.pr .int (.pr .int (.pr .bool .int)))) c.2.2])] [] 0 (QY (lB (decide (SgOk c∧QG c=Qu)))):=by
 refine Qn Tryz.func278 rfl rfl Tryz.ntmps278 fun O_ hO w0_ N0_ X_ h0_ f0_=> ?_
 refine w_ ?_
 refine xbx 0 ?_
 iterate 4 refine w_ ?_
 refine lc (dK (W4 c) Qhy) ?_
 iterate 9 refine w_ ?_
 cases hb1:(decide (SgOk c))
 ·have hb1':=ae hb1
  iterate 4 refine w_ ?_
  refine Qb<|fqB hO ?_
  exact Qqf (by assumption)
 ·have hb1':=ab hb1
  iterate 4 refine w_ ?_
  refine Qb<|fqB hO ?_
  exact QoS (by assumption)
theorem QrQ {c:DSg}{sig:Int}[Decidable (SgOk c)](h:¬(0≤sig∧sig≤(c.1.length:Int) - 1)):false=decide ((0≤sig∧sig≤(c.1.length:Int) - 1)∧QE c sig=false∧SgOk c∧QG c=Qu):=(aF fun g=>h g.1).symm
theorem Qrv {c:DSg}{sig:Int}{x:QB}[Decidable (SgOk c)](h:0≤sig∧sig≤(c.1.length:Int) - 1)(hx:c.1[sig.toNat]? =some x)(h2:x.2=1):false=decide ((0≤sig∧sig≤(c.1.length:Int) - 1)∧QE c sig=false∧SgOk c∧QG c=Qu):=(aF fun g=>by
  have h3:=g.2.1
  rw[← Kh h.1 hx,aI h2] at h3; cases h3).symm
theorem Qrr {c:DSg}{sig:Int}{x:QB}[Decidable (SgOk c)](h:0≤sig∧sig≤(c.1.length:Int) - 1)(hx:c.1[sig.toNat]? =some x)(h2:¬x.2=1):decide (SgOk c∧QG c=Qu)=decide ((0≤sig∧sig≤(c.1.length:Int) - 1)∧QE c sig=false∧SgOk c∧QG c=Qu):=by
  have h3:QE c sig=false:=by rw[← Kh h.1 hx,aF h2]
  simp[h,h3]
theorem QrU {c:DSg}{sig:Int}[Decidable (SgOk c)](h:decide (SgOk c∧(0≤sig∧sig≤(c.1.length:Int) - 1)∧QE c sig=false)=true):decide (QG c=Qu)=decide ((0≤sig∧sig≤(c.1.length:Int) - 1)∧QE c sig=false∧SgOk c∧QG c=Qu):=by
  have h:=ab h
  simp[h.1,h.2.1,h.2.2]
theorem QqS {c:DSg}{sig:Int}[Decidable (SgOk c)](h:decide (SgOk c∧(0≤sig∧sig≤(c.1.length:Int) - 1)∧QE c sig=false)=false):false=decide ((0≤sig∧sig≤(c.1.length:Int) - 1)∧QE c sig=false∧SgOk c∧QG c=Qu):=by
  have h:=ae h
  exact (aF fun g=>h ⟨g.2.2.1,g.1,g.2.1⟩).symm
theorem Qre {c:DSg}{sig:Int}{x:QB}[Decidable (SgOk c)](h0:SgOk c)(h:0≤sig∧sig≤(c.1.length:Int) - 1)(hx:c.1[sig.toNat]? =some x):(!decide (x.2=1))=decide (SgOk c∧(0≤sig∧sig≤(c.1.length:Int) - 1)∧QE c sig=false):=by
  rw[← Kh h.1 hx]; simp[h0,h]
theorem QqJ {c:DSg}{sig:Int}[Decidable (SgOk c)](h:¬(0≤sig∧sig≤(c.1.length:Int) - 1)):false=decide (SgOk c∧(0≤sig∧sig≤(c.1.length:Int) - 1)∧QE c sig=false):=(aF fun g=>h g.2.1).symm
theorem QqO {c:DSg}{sig:Int}[Decidable (SgOk c)](h:¬SgOk c):false=decide (SgOk c∧(0≤sig∧sig≤(c.1.length:Int) - 1)∧QE c sig=false):=(aF fun g=>h g.1).symm
theorem Jd (c:(List (ByteArray×Int))×List ByteArray×(List (Int×Int×Bool×Int)))(sig:Int)[∀c,Decidable (SgOk c)]:FC Tryz.prog 157 [(true,[.dat (.sl 44 (.pr .str .int)) c.1, .dat (.sl 9 .str) c.2.1, .dat (.sl 46 (.pr .int (.pr .int (.pr .bool .int)))) c.2.2]),(false,[dI sig])] [] 0 (QY (lB (decide ((0≤sig∧sig≤(c.1.length:Int) - 1)∧QE c sig=false∧SgOk c∧QG c=Qu)))):=by
 refine Qn Tryz.func157 rfl rfl Tryz.ntmps157 fun O_ hO w0_ N0_ X_ h0_ f0_=> ?_
 refine acI 1 fun hi1=> ?_
 refine w_ ?_
 refine xbx 0 ?_
 iterate 6 refine w_ ?_
 refine alL 7 fun hl2=> ?_
 iterate 2 refine w_ ?_
 refine lc (dK (QU sig 0 ((c.1.length:Int) - 1)) Zr) ?_
 refine w_ ?_
 cases hb3:(decide (0≤sig∧sig≤((c.1.length:Int) - 1)))
 ·have hb3':=ae hb3
  iterate 14 refine w_ ?_
  refine Qb<|fqB hO ?_
  first | exact QrQ (by assumption)
 ·have hb3':=ab hb3
  iterate 3 refine w_ ?_
  obtain ⟨x4,hx5⟩:∃z,c.1[(sig).toNat]? =some z:=⟨_,aa (by omega)⟩
  iterate 6 refine w_ ?_
  cases hb6:(!decide (x4.2=1))
  ·have hb6':(x4.2=1):=QV hb6
   iterate 5 refine w_ ?_
   refine Qb<|fqB hO ?_
   exact Qrv (by assumption) hx5 (by assumption)
  ·have hb6':¬(x4.2=1):=Za hb6
   refine w_ ?_
   refine lgy rfl rfl (dK (QbF c) QfZ) ?_
   iterate 3 refine w_ ?_
   refine Qb<|fqB hO ?_
   exact Qrr (by assumption) hx5 (by assumption)
theorem JM (c:(List (ByteArray×Int))×List ByteArray×(List (Int×Int×Bool×Int)))(sig:Int)[∀c,Decidable (SgOk c)]:FC Tryz.prog 281 [(true,[.dat (.sl 44 (.pr .str .int)) c.1, .dat (.sl 9 .str) c.2.1, .dat (.sl 46 (.pr .int (.pr .int (.pr .bool .int)))) c.2.2]),(false,[dI sig])] [] 0 (QY (lB (decide (SgOk c∧(0≤sig∧sig≤(c.1.length:Int) - 1)∧QE c sig=false)))):=by
 refine Qn Tryz.func281 rfl rfl Tryz.ntmps281 fun O_ hO w0_ N0_ X_ h0_ f0_=> ?_
 refine acI 1 fun hi1=> ?_
 refine w_ ?_
 refine xbx 0 ?_
 iterate 4 refine w_ ?_
 refine lc (dK (Qbs c) Qgg) ?_
 refine w_ ?_
 cases hb2:(decide (SgOk c))
 ·have hb2':=ae hb2
  iterate 18 refine w_ ?_
  refine Qb<|fqB hO ?_
  exact QqO (by assumption)
 ·have hb2':=ab hb2
  iterate 3 refine w_ ?_
  refine alL 10 fun hl3=> ?_
  iterate 2 refine w_ ?_
  refine lgy rfl rfl (dK (YC sig 0 ((c.1.length:Int) - 1)) Xk) ?_
  iterate 2 refine w_ ?_
  cases hb4:(decide (0≤sig∧sig≤((c.1.length:Int) - 1)))
  ·have hb4':=ae hb4
   iterate 10 refine w_ ?_
   refine Qb<|fqB hO ?_
   exact QqJ (by assumption)
  ·have hb4':=ab hb4
   iterate 3 refine w_ ?_
   obtain ⟨x5,hx6⟩:∃z,c.1[(sig).toNat]? =some z:=⟨_,aa (by omega)⟩
   iterate 7 refine w_ ?_
   refine Qb<|fqB hO ?_
   exact Qre (by assumption) (by assumption) hx6
theorem Ve (c:(List (ByteArray×Int))×List ByteArray×(List (Int×Int×Bool×Int)))(sig:Int)[∀c,Decidable (SgOk c)]:FC Tryz.prog 159 [(true,[.dat (.sl 44 (.pr .str .int)) c.1, .dat (.sl 9 .str) c.2.1, .dat (.sl 46 (.pr .int (.pr .int (.pr .bool .int)))) c.2.2]),(false,[dI sig])] [] 0 (QY (lB (decide ((0≤sig∧sig≤(c.1.length:Int) - 1)∧QE c sig=false∧SgOk c∧QG c=Qu)))):=by
 refine Qn Tryz.func159 rfl rfl Tryz.ntmps159 fun O_ hO w0_ N0_ X_ h0_ f0_=> ?_
 refine acI 1 fun hi1=> ?_
 refine w_ ?_
 refine xbx 0 ?_
 iterate 5 refine w_ ?_
 refine lc (dK (JM c sig) QgN) ?_
 refine w_ ?_
 cases hb2:(decide (SgOk c∧(0≤sig∧sig≤(c.1.length:Int) - 1)∧QE c sig=false))
 ·have hb2':=ae hb2
  iterate 6 refine w_ ?_
  refine Qb<|fqB hO ?_
  exact QqS (by assumption)
 ·have hb2':=ab hb2
  refine w_ ?_
  refine lgy rfl rfl (dK (U1 c (by assumption:SgOk c∧_).1.w) Qaw) ?_
  iterate 4 refine w_ ?_
  refine Qb<|fqB hO ?_
  exact QrU (by assumption)
end Go.Proofs.YtgpdhgadmjfokaaGreat
