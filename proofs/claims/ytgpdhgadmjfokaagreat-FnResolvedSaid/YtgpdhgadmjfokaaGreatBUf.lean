/- Walks over abstract states: arcs that disable a signal, how many there are; arcs that delay an input. -/
import Derived.Test.YtgpdhgadmjfokaaGreatBUe
set_option linter.unusedSimpArgs false
set_option linter.unusedVariables false
set_option linter.unusedSectionVars false
namespace Go.Proofs.YtgpdhgadmjfokaaGreat
open Go.RowKit
set_option maxRecDepth 100000
set_option maxHeartbeats 4000000
def Qak (c:DSg)(s:ByteArray):Bool:=c.2.2.any fun a=>ZS s a&&X8 c a.2.1
def WC (f:DAr→Bool)(as_:List DAr)(k:Nat):List Int:=((List.range k).filter fun i=>match as_[i]? with | some a=>f a | none=>false).map fun i=>((i:Nat):Int)
def exL (c:DSg)(q sig:Int)(up:Bool):Bool:=c.2.2.any fun a=>decide (a.1=q∧a.2.1=sig∧a.2.2.1=up)
def H1 (c:DSg)(sig:Int)(up:Bool)(a:DAr):Bool:= !decide (a.2.1=sig)&&(exL c a.1 sig up&& !exL c a.2.2.2 sig up)
def QmS (c:DSg)(sig:Int)(a:DAr):Bool:=H1 c sig false a||H1 c sig true a
abbrev Ji (c:DSg)(sig:Int)(k:Nat):List Int:=WC (QmS c sig) c.2.2 k
def Vw (c:DSg)(k:Nat):Int:=((Z3 c.1 k).map fun s=>((Ji c s c.2.2.length).length:Int)).sum
def Ue (c:DSg):Int:=Vw c c.1.length
def Qhx (sig:Int)(up:Bool)(l:List Int)(a:DAr):List Int:=if a.2.1=sig∧a.2.2.1=up then Z9 ltI a.1 l else l
def exS (sig:Int)(up:Bool)(as_:List DAr):List Int:=as_.foldl (Qhx sig up) []
def Jg (c:DSg)(sig:Int)(up:Bool)(l:List Int)(k:Nat):List Int:=(WC (H1 c sig up) c.2.2 k).foldl (fun l i=>Z9 ltI i l) l
def Qii (c:DSg)(sig:Int):Nat→List Int
 | 0=>[]
 | 1=>Jg c sig false [] c.2.2.length
 | _=>Jg c sig true (Jg c sig false [] c.2.2.length) c.2.2.length
section
variable {c:DSg}{as_:List DAr}{a:DAr}{i j k n:Nat}{s:ByteArray}{sig q x y:Int}{up:Bool}{l:List Int}{f g:DAr→Bool}
theorem Ub (b:as_[k]? =some a)(h:f a=true):WC f as_ k++[(k:Int)]=WC f as_ (k+1):=by
 unfold WC
 rw[ce,bf,bj]; simp[b,h]
theorem W3 (b:as_[k]? =some a)(h:f a=false):WC f as_ k=WC f as_ (k+1):=by
 unfold WC
 rw[ce,bf,bj]; simp[b,h]
theorem Kl:(WC f as_ k).length≤k:=by unfold WC; rw[aC]; exact bl (bX ..) (by simp)
theorem Kr:x∈WC f as_ k↔∃(j:Nat) (a:DAr),x=(j:Int)∧j < k∧as_[j]? =some a∧f a=true:=by
 unfold WC
 simp only[aR,bO,cr]
 constructor
 ·rintro ⟨j,⟨d,b⟩,rfl⟩
  cases e:as_[j]? with
  | none=>rw[e] at b; cases b
  | some a=>rw[e] at b; exact ⟨j,a,rfl,d,e,b⟩
 ·rintro ⟨j,a,rfl,d,b,h⟩; exact ⟨j,⟨d,by rw[b]; exact h⟩,rfl⟩
theorem QqK:(WC f as_ k).Pairwise fun x y=>ltI x y=true:=by
 induction k with
 | zero=>exact bF
 | succ k d=>
  cases b:as_[k]? with
  | none=>
   have:WC f as_ (k+1)=WC f as_ k:=by unfold WC; rw[ce,bf,bj]; simp[b]
   rw[this]; exact d
  | some a=>
   cases e:f a with
   | false=>rw[← W3 b e]; exact d
   | true=>
    rw[← Ub b e,List.pairwise_append]
    refine ⟨d,cy ..,fun x o y m=> ?_⟩
    rw[aB] at m
    obtain ⟨j,_,rfl,h,_⟩:=Kr.1 o
    simp[ltI,m]; omega
theorem Qjs {v:Int}(h:(WC f as_ k)[i]? =some v):∃(j:Nat) (a:DAr),v=(j:Int)∧j < k∧as_[j]? =some a∧f a=true:=Kr.1 (ah h)
theorem Qr8 (u:∀j,j < i→∀v,(WC (ZS s) c.2.2 c.2.2.length)[j]? =some v→∀a,c.2.2[v.toNat]? =some a→X8 c a.2.1=false)(h:(WC (ZS s) c.2.2 c.2.2.length).length≤i):true= !Qak c s:=by
 cases e:Qak c s with
 | false=>rfl
 | true=>
  unfold Qak at e
  obtain ⟨a,p,b⟩:=ck.1 e
  rw[aL] at b
  obtain ⟨j,d⟩:=aM.1 p
  have r:=(ai.1 d).1
  obtain ⟨m,o⟩:=aM.1 (Kr (k:=c.2.2.length).2 ⟨j,a,rfl,r,d,b.1⟩)
  have t:=(ai.1 o).1
  have:=u m (by omega) _ o a (by simpa using d)
  rw[b.2] at this; cases this
theorem QpD {v:Int}(hv:(WC (ZS s) c.2.2 c.2.2.length)[i]? =some v)(m:c.2.2[v.toNat]? =some a)(h:X8 c a.2.1=true):false= !Qak c s:=by
  obtain ⟨j,b,rfl,_,d,o⟩:=Qjs hv
  have e : b = a := by have : c.2.2[j]? = some a := by simpa using m
                       rw[d] at this; exact cw this
  subst e
  have:Qak c s=true:=ck.2 ⟨b,ah d,by rw[o,h]; rfl⟩
  rw[this]; rfl
theorem Qzt (m n t:Nat):(((m ^^^ (m &&& n)) / 2 ^ t) &&& 3=0)↔(∀e,e < 2→(m.testBit (t+e)=true→n.testBit (t+e)=true)):=by
 rw[Qy4]
 simp only[Nat.testBit_xor,Nat.testBit_and]
 constructor
 ·rintro ⟨d,o⟩ e p b
  match e,p with
  | 0,_=>simp only[cP] at b ⊢; rw[b] at d; cases r:n.testBit t <;> simp_all
  | 1,_=>rw[b] at o; cases r:n.testBit (t+1) <;> simp_all
 ·intro h
  have d:=h 0 (by omega)
  have o:=h 1 (by omega)
  simp only[cP] at d
  constructor
  ·cases b:m.testBit t with
   | false=>rfl
   | true=>rw[d b]; rfl
  ·cases b:m.testBit (t+1) with
   | false=>rfl
   | true=>rw[o b]; rfl
theorem Qog (p:∀a∈c.2.2,0≤a.1)(m:k < c.2.1.length)(u:0≤sig)(up:Bool):(mAt (X6 c.2.1.length c.2.2) (k:Int)).toNat.testBit ((2*sig).toNat+(if up=true then 1 else 0))=exL c k sig up:=by
 rw[bQ]
 unfold mAt X6
 rw[cM,QcB c.2.2 _ k _ p (by simpa using m)]
 unfold exL
 rw[ck]
 simp only[cc,m,if_true,ao,Int.toNat_zero,Nat.zero_testBit,aU]
 constructor
 ·rintro (h | ⟨a,e,t,b,d⟩)
  ·cases h
  ·refine ⟨a,e,b, ?_⟩
   cases r:a.2.2.1 <;> cases up <;> simp[r] at d ⊢ <;> omega
 ·rintro ⟨a,e,b,d,o⟩
  exact .inr ⟨a,e,by omega,b,by rw[d,o]⟩
theorem Hj (v:∀a∈c.2.2,0≤a.1)(b:InR c.2.1.length a)(w:0≤sig)(h:¬a.2.1=sig)(G:(X6 c.2.1.length c.2.2)[a.1.toNat]? =some x)(H:(X6 c.2.1.length c.2.2)[a.2.2.2.toNat]? =some y):
 (!decide ((((((((x.toNat ^^^ (x.toNat &&& y.toNat):Nat):Int) / 2 ^ (2*sig).toNat)).toNat &&& (3:Int).toNat:Nat)):Int)=0))=QmS c sig a:=by
 have e:((((x.toNat ^^^ (x.toNat &&& y.toNat):Nat):Int) / 2 ^ (2*sig).toNat)).toNat=(x.toNat ^^^ (x.toNat &&& y.toNat)) / 2 ^ (2*sig).toNat:=by
  have B:(((x.toNat ^^^ (x.toNat &&& y.toNat):Nat):Int) / 2 ^ (2*sig).toNat)=(((x.toNat ^^^ (x.toNat &&& y.toNat)) / 2 ^ (2*sig).toNat:Nat):Int):=by
   rw[Int.natCast_ediv,Int.natCast_pow]; rfl
  rw[B]; rfl
 rw[e]
 have C:((((x.toNat ^^^ (x.toNat &&& y.toNat)) / 2 ^ (2*sig).toNat) &&& (3:Int).toNat:Nat):Int)=0↔((x.toNat ^^^ (x.toNat &&& y.toNat)) / 2 ^ (2*sig).toNat) &&& 3=0:=by
  show ((((x.toNat ^^^ (x.toNat &&& y.toNat)) / 2 ^ (2*sig).toNat) &&& 3:Nat):Int)=0↔_
  omega
 have d:=Hc G
 have m:=Hc H
 have o:∀up:Bool,x.toNat.testBit ((2*sig).toNat+(if up=true then 1 else 0))=exL c a.1 sig up:=fun up=>by
  have:=Qog (k:=a.1.toNat) v (by have:=b.1; omega) w up
  rw[show ((a.1.toNat:Nat):Int)=a.1 by have:=b.1; omega,d] at this
  exact this
 have p:∀up:Bool,y.toNat.testBit ((2*sig).toNat+(if up=true then 1 else 0))=exL c a.2.2.2 sig up:=fun up=>by
  have:=Qog (k:=a.2.2.2.toNat) v (by have:=b.2; omega) w up
  rw[show ((a.2.2.2.toNat:Nat):Int)=a.2.2.2 by have:=b.2; omega,m] at this
  exact this
 have r:=o false
 have t:=p false
 have z:=o true
 have A:=p true
 simp only[bU,if_false,if_true,cP] at r t z A
 have I:(∀e,e < 2→x.toNat.testBit ((2*sig).toNat+e)=true→y.toNat.testBit ((2*sig).toNat+e)=true)↔((x.toNat.testBit (2*sig).toNat=true→y.toNat.testBit (2*sig).toNat=true)∧(x.toNat.testBit ((2*sig).toNat+1)=true→y.toNat.testBit ((2*sig).toNat+1)=true)):=
  ⟨fun u=>⟨by simpa using u 0 (by omega),u 1 (by omega)⟩,fun ⟨D,E⟩ e F=>match e,F with
   | 0,_=>by simpa using D
   | 1,_=>E⟩
 rw[bQ,bL,bH,C,Qzt,I]
 unfold QmS H1
 rw[← r,← t,← z,← A,aH h]
 generalize x.toNat.testBit (2*sig).toNat=X0
 generalize y.toNat.testBit (2*sig).toNat=Y0
 generalize x.toNat.testBit ((2*sig).toNat+1)=X1
 generalize y.toNat.testBit ((2*sig).toNat+1)=Y1
 cases X0 <;> cases Y0 <;> cases X1 <;> cases Y1 <;> simp
theorem Qho (h:a.2.1=sig):QmS c sig a=false:=by unfold QmS H1; simp[h]
theorem Qju (b:as_[k]? =some a)(h:a.2.1=sig∧a.2.2.1=up):Z9 ltI a.1 (exS sig up (as_.take k))=exS sig up (as_.take (k+1)):=by
 unfold exS
 rw[QG b,bm]; simp[Qhx,h]
theorem Qng (b:as_[k]? =some a)(h:¬(a.2.1=sig∧a.2.2.1=up)):exS sig up (as_.take k)=exS sig up (as_.take (k+1)):=by
 unfold exS
 rw[QG b,bm]; simp[Qhx,h]
theorem Qhe:∀{as_:List DAr} {l:List Int},x∈as_.foldl (Qhx sig up) l↔x∈l∨∃a∈as_,a.1=x∧a.2.1=sig∧a.2.2.1=up
 | [],l=>by simp
 | a :: as_,l=>by
  rw[aT,Qhe]
  unfold Qhx
  split
  ·rename_i h
   rw[YB]
   constructor
   ·rintro ((rfl | d) | ⟨b,e,d⟩)
    ·exact .inr ⟨a,ax ..,rfl,h⟩
    ·exact .inl d
    ·exact .inr ⟨b,aw _ e,d⟩
   ·rintro (d | ⟨b,e,d⟩)
    ·exact .inl (.inr d)
    ·rcases aD.1 e with rfl | e
     ·exact .inl (.inl d.1.symm)
     ·exact .inr ⟨b,e,d⟩
  ·rename_i h
   constructor
   ·rintro (d | ⟨b,e,d⟩)
    ·exact .inl d
    ·exact .inr ⟨b,aw _ e,d⟩
   ·rintro (d | ⟨b,e,d⟩)
    ·exact .inl d
    ·rcases aD.1 e with rfl | e
     ·exact absurd d.2 h
     ·exact .inr ⟨b,e,d⟩
theorem Qhq:(x∈exS sig up c.2.2)↔exL c x sig up=true:=by
 unfold exS exL
 rw[Qhe,ck]
 simp
theorem Qgj:∀{as_:List DAr} {l:List Int},(as_.foldl (Qhx sig up) l).length≤l.length+as_.length
 | [],l=>aO _
 | a :: as_,l=>by
  have b:=Qgj (as_:=as_) (l:=Qhx sig up l a)
  have d:(Qhx sig up l a).length≤l.length+1:=by
   unfold Qhx
   split
   ·rcases KY a.1 l with h | h
    ·rw[h]; omega
    ·omega
   ·omega
  rw[aT,aj]; omega
theorem Qvo:(exS sig up (as_.take k)).length≤as_.length:=by
 have:=Qgj (sig:=sig) (up:=up) (as_:=as_.take k) (l:=[])
 have b:(as_.take k).length≤as_.length:=by simp only[ap]; omega
 unfold exS; simp only[aA] at this; omega
theorem QbJ (b:c.2.2[k]? =some a)(h:H1 c sig up a=true):Z9 ltI (k:Int) (Jg c sig up l k)=Jg c sig up l (k+1):=by
 unfold Jg
 rw[← Ub b h,bm]; rfl
theorem XY (b:c.2.2[k]? =some a)(h:H1 c sig up a=false):Jg c sig up l k=Jg c sig up l (k+1):=by
 unfold Jg
 rw[← W3 b h]
theorem UO:∀{m l:List Int},x∈m.foldl (fun l i=>Z9 ltI i l) l↔x∈l∨x∈m
 | [],l=>by simp
 | y :: m,l=>by
  rw[aT,UO,YB,aD]
  constructor
  ·rintro ((h | h) | h)
   ·exact .inr (.inl h)
   ·exact .inl h
   ·exact .inr (.inr h)
  ·rintro (h | h | h)
   ·exact .inl (.inr h)
   ·exact .inl (.inl h)
   ·exact .inr h
theorem Kg:∀{m l:List Int},Qpg l→Qpg (m.foldl (fun l i=>Z9 ltI i l) l)
 | [],_,h=>h
 | y :: m,l,h=>Kg (m:=m) (Kh Xb h)
theorem Qjn (k:Nat):Qpg (Qii c sig k):=by
 match k with
 | 0=>exact bF
 | 1=>exact Kg bF
 | k+2=>exact Kg (Kg bF)
theorem Qtd (d:Qpg l)(e:∀x∈l,0≤x∧x < (c.2.2.length:Int))(m:k≤c.2.2.length):(Jg c sig up l k).length≤c.2.2.length:=by
 have:=Kw (l:=Jg c sig up l k) (lo:=0) (hi:=c.2.2.length) (Kg d) (fun x b=>by
  rcases UO.1 b with b | b
  ·exact e x b
  ·obtain ⟨j,_,rfl,h,_⟩:=Kr.1 b; omega) (by omega)
 omega
theorem Qsc (k:Nat):∀x∈Qii c sig k,0≤x∧x < (c.2.2.length:Int):=by
 have h:∀{up:Bool} {l:List Int},(∀x∈l,0≤x∧x < (c.2.2.length:Int))→∀x∈Jg c sig up l c.2.2.length,0≤x∧x < (c.2.2.length:Int):=fun d x b=>by
  rcases UO.1 b with b | b
  ·exact d x b
  ·obtain ⟨j,_,rfl,e,_⟩:=Kr.1 b; omega
 match k with
 | 0=>intro x b; cases b
 | 1=>exact h fun x b=>by cases b
 | k+2=>exact h (h fun x b=>by cases b)
theorem Qs6:Qii c sig 2=Ji c sig c.2.2.length:=by
 refine TO.ext Xb (Qjn 2) QqK fun x=> ?_
 show x∈Jg c sig true (Jg c sig false [] c.2.2.length) c.2.2.length↔_
 unfold Jg
 rw[UO,UO]
 simp only[cJ,false_or,Kr]
 unfold QmS
 constructor
 ·rintro (⟨j,a,d,e,h,b⟩ | ⟨j,a,d,e,h,b⟩)
  ·exact ⟨j,a,d,e,h,by rw[b]; rfl⟩
  ·exact ⟨j,a,d,e,h,by rw[b,Bool.or_true]⟩
 ·rintro ⟨j,a,d,e,h,b⟩
  rw[bP] at b
  rcases b with b | b
  ·exact .inl ⟨j,a,d,e,h,b⟩
  ·exact .inr ⟨j,a,d,e,h,b⟩
theorem QqA (hi:i < 2){u:Bool}(b:[false,true][i]? =some u):Jg c sig u (Qii c sig i) c.2.2.length=Qii c sig (i+1):=by
 match i,hi with
 | 0,_=>cases b; rfl
 | 1,_=>cases b; rfl
theorem Qh8 (h:a.2.1=sig):H1 c sig up a=false:=by unfold H1; simp[h]
theorem Qh9 (h:¬a.1∈exS sig up c.2.2):H1 c sig up a=false:=by
 rw[Qhq] at h
 unfold H1
 rw[bR.2 h]; simp
theorem QiB (h:a.2.2.2∈exS sig up c.2.2):H1 c sig up a=false:=by
 rw[Qhq] at h
 unfold H1
 rw[h]; simp
theorem Qih (h:¬a.2.1=sig)(b:a.1∈exS sig up c.2.2)(d:¬a.2.2.2∈exS sig up c.2.2):H1 c sig up a=true:=by
 rw[Qhq] at b d
 unfold H1
 rw[b,bR.2 d,aH h]; rfl
theorem QuY:0≤Vw c k∧Vw c k≤(c.2.2.length:Int)*(k:Int):=by
 induction k with
 | zero=>exact ⟨by simp[Vw,Z3],by simp[Vw,Z3]⟩
 | succ k h=>
  have e:Vw c (k+1)=Vw c k∨Vw c (k+1)=Vw c k+((Ji c k c.2.2.length).length:Int):=by
   unfold Vw Z3
   rw[ce,bf]
   by_cases b:((c.1[k]?).getD (ByteArray.empty,0)).2=1
   ·left; simp[b]
   ·right; simp[b]
  have d:(Ji c (k:Int) c.2.2.length).length≤c.2.2.length:=Kl
  have:(c.2.2.length:Int)*((k+1:Nat):Int)=(c.2.2.length:Int)*(k:Int)+(c.2.2.length:Int):=by rw[Int.natCast_add]; simp[Int.mul_add]
  rw[this]
  rcases e with e | e <;> rw[e] <;> constructor <;> omega
theorem QsC (b:SgOk c)(o:k≤c.1.length):0≤Vw c k∧Vw c k≤32000:=by
 have d:=QuY (c:=c) (k:=k)
 have e:=b.few
 have h:=b.sigs.2.2
 have m:(c.2.2.length:Int)*(k:Int)≤4000*8:=Int.mul_le_mul (by omega) (by omega) (by omega) (by decide)
 exact ⟨d.1,by omega⟩
theorem Qi4 {z:QD}(b:c.1[k]? =some z)(h:¬z.2=1):Vw c k+((Ji c (k:Int) c.2.2.length).length:Int)=Vw c (k+1):=by
 unfold Vw
 rw[← UV b h,bj]; simp
theorem Qnf {z:QD}(b:c.1[k]? =some z)(h:z.2=1):Vw c k=Vw c (k+1):=by
 unfold Vw
 rw[← Qbg b h]
def HJ (c:DSg)(l:List Int):Int:=(l.map fun s=>((Ji c s c.2.2.length).length:Int)).sum
theorem QpG {o:List Int}(b:o[k]? =some sig):HJ c (o.take k)+((Ji c sig c.2.2.length).length:Int)=HJ c (o.take (k+1)):=by
 unfold HJ
 rw[QG b,bj]; simp
theorem QnD:∀{l:List Int},0≤HJ c l∧HJ c l≤(c.2.2.length:Int)*(l.length:Int)
 | []=>by simp[HJ]
 | x :: l=>by
  have b:=QnD (l:=l)
  have d:(Ji c x c.2.2.length).length≤c.2.2.length:=Kl
  have e:HJ c (x :: l)=((Ji c x c.2.2.length).length:Int)+HJ c l:=by simp[HJ]
  have:(c.2.2.length:Int)*(((x :: l).length:Nat):Int)=(c.2.2.length:Int)*(l.length:Int)+(c.2.2.length:Int):=by rw[aj,Int.natCast_add]; simp[Int.mul_add]
  rw[this,e]
  constructor <;> omega
theorem QqM (b:SgOk c){o:List Int}(r:o.length≤c.1.length):0≤HJ c (o.take k)∧HJ c (o.take k)≤32000:=by
 have d:=QnD (c:=c) (l:=o.take k)
 have e:=b.few
 have h:=b.sigs.2.2
 have p:(o.take k).length≤o.length:=by simp only[ap]; omega
 have m:(c.2.2.length:Int)*((o.take k).length:Int)≤4000*8:=Int.mul_le_mul (by omega) (by omega) (by omega) (by decide)
 exact ⟨d.1,by omega⟩
theorem Qtv {o:List Int}(b:o.length≤k)(h:o=Z3 c.1 c.1.length):HJ c (o.take k)=Ue c:=by rw[QH b,h]; rfl
theorem nn2 {x y:Int}(b:0≤x)(d:0≤y):0≤(((x.toNat ^^^ (x.toNat &&& y.toNat):Nat)):Int):=cp _
end
theorem Qai (c:ZB)(s:ByteArray)(m:SignsOk c s):FC Tryz.prog 94 [(true,[.dat Ql c.1, .dat Qm c.2.1, .dat Qu c.2.2]),(false,[dS s])] [] 0 (YJ 3 .int (WC (ZS s) c.2.2 c.2.2.length)):=by
 have w:=m.2.2.few
 refine Qt Tryz.func94 rfl rfl Tryz.ntmps94 fun B t A o C r p=> ?_
 refine w_ ?_
 refine xbx 0 ?_
 refine w9 ?_
 refine alL 9 fun _=> ?_
 refine w4 ?_
 refine AC.wk (Wk.nilS 1 5 3 .int rfl (Fresh.of rfl) (nlr rfl)) ?_
 refine lp0 c.2.2.length (fun k=>⟨[(1,lf (dS s)),(4,lf (.val (.slice none 0 0))),(5,lR 2),(9,lf (.dat Qu c.2.2)),(10,lI (c.2.2.length:Int)),(11,lI (k:Int))],[(2,some (.arr 3 .int (WC (ZS s) c.2.2 k)))]⟩) ?_ fun k _=> ?_
 exact wp [(2,1)] ⟨(Qe (rfl)),trivial⟩
 have z:=Kl (f:=ZS s) (as_:=c.2.2) (k:=k)
 refine w4 ?_
 cases d:(decide ((k:Int) < (c.2.2.length:Int)))
 have h:=aa d
 refine w7 ?_
 refine Qd<|fo_ t ?_
 (congr 1; omega)
 have h:=ab d
 refine w6 ?_
 obtain ⟨ar,b⟩:=gx c.2.2 k
 have u:=m.at_ (ah b)
 refine w2 ?_
 refine lc (xal 3 Qs Zg) ?_
 refine w6 ?_
 refine lc (dK (WL s ar (by omega) (by omega)) Qae) ?_
 refine w_ ?_
 cases v:(ZS s ar)
 refine w6 ?_
 refine Qb ?_
 refine l0_ ?_
 exact wp [] ⟨(Qe (by first | exact Ub b ‹_› | exact W3 b ‹_›)),trivial⟩
 refine w4 ?_
 refine lc (dBs 4 (e:= .int) Yj) ?_
 refine lc (dA 5 Y4) ?_
 refine w_ ?_
 refine Qb ?_
 refine w4 ?_
 refine Qb ?_
 refine l0_ ?_
 exact wp [(2,5)] ⟨(Qe (by first | exact Ub b ‹_› | exact W3 b ‹_›)),trivial⟩
theorem Qdb (c:ZB)(s:ByteArray)(B:SignsOk c s):FC Tryz.prog 98 [(true,[.dat Ql c.1, .dat Qm c.2.1, .dat Qu c.2.2]),(false,[dS s])] [] 0 (Q7 (lB (!Qak c s))):=by
 have H:=B.2.2.few
 refine Qt Tryz.func98 rfl rfl Tryz.ntmps98 fun O C N E P G F=> ?_
 refine w_ ?_
 refine xbx 0 ?_
 refine w6 ?_
 refine lc (dK (Qai c s B).frozen Qo2) ?_
 refine alL 10 fun _=> ?_
 refine w4 ?_
 refine lpK ((WC (ZS s) c.2.2 c.2.2.length).length) (fun k=>∀j,j < k→∀v,(WC (ZS s) c.2.2 c.2.2.length)[j]? =some v→∀a,c.2.2[v.toNat]? =some a→X8 c a.2.1=false) (fun k=>⟨[(2,lP 0 0),(10,lf (.dat QA (WC (ZS s) c.2.2 c.2.2.length))),(11,lI ((WC (ZS s) c.2.2 c.2.2.length).length:Int)),(12,lI (k:Int))],[bx 0 27 [.dat Ql c.1, .dat Qm c.2.1, .dat Qu c.2.2]]⟩) ((fun j I=>absurd I (bi j))) ?_ fun k _ p=> ?_
 exact wo []
 refine w4 ?_
 cases t:(decide ((k:Int) < ((WC (ZS s) c.2.2 c.2.2.length).length:Int)))
 have u:=aa t
 refine w6 ?_
 refine Qd<|fqB C ?_
 first | exact Qr8 p (by omega)
 have u:=ab t
 refine w5 ?_
 obtain ⟨v,b⟩:=gx (WC (ZS s) c.2.2 c.2.2.length) k
 obtain ⟨R,Q,M,L,J,K⟩:=Qjs b
 refine w2 ?_
 refine alI 15 fun _=> ?_
 refine w6 ?_
 obtain ⟨ar,d⟩:=gx c.2.2 ((v).toNat)
 have w:=(B.2.2.arcs _ (ah d)).2.2.1
 have D:ar.2.1 < (c.1.length:Int):=Ut w
 refine w3 ?_
 refine alI 21 fun _=> ?_
 refine w6 ?_
 cases e:(decide (0≤ar.2.1))
 have m:=aa e
 refine w15 ?_
 refine Qb ?_
 refine lK_ ((YP p b (fun a A=>by cases (d).symm.trans A; first | exact (QhW (by omega)).symm | exact (Qh0 (by omega) r).symm.trans ‹_›))) ?_
 exact wo []
 have m:=ab e
 refine w3 ?_
 obtain ⟨sg,z⟩:=gx c.1 ((ar.2.1).toNat)
 have r:=z
 refine w6 ?_
 cases h:(decide (sg.2=1))
 have o:=aa h
 refine w6 ?_
 refine Qb ?_
 refine lK_ ((YP p b (fun a A=>by cases (d).symm.trans A; first | exact (QhW (by omega)).symm | exact (Qh0 (by omega) r).symm.trans ‹_›))) ?_
 exact wo []
 have o:=ab h
 refine w4 ?_
 refine Qd<|fqB C ?_
 exact QpD b d ((Qh0 (by omega) r).symm.trans ‹_›)
theorem Qc9 (a:Qf5)(b:ByteArray)(c:ZB)(r:0≤a.1∧a.1 < (b.size:Int))(t:0≤a.2.2.2∧a.2.2.2 < (b.size:Int))(u:a.2.1 < (c.1.length:Int)):FC Tryz.prog 419 [(true,[dI a.1,dI a.2.1,dB a.2.2.1,dI a.2.2.2]),(false,[.ptr 0 0]),(false,[.ptr 1 0])] [bx 0 9 [dS b],bx 1 27 [.dat Ql c.1, .dat Qm c.2.1, .dat Qu c.2.2]] 2 (Is (lB (ZS b a&&X8 c a.2.1)) [bx 0 9 [dS b],bx 1 27 [.dat Ql c.1, .dat Qm c.2.1, .dat Qu c.2.2]]):=by
 refine Qt Tryz.func419 rfl rfl Tryz.ntmps419 fun z d w e A p o=> ?_
 refine acG 0 0 fun _=> ?_
 refine acG 0 1 fun _=> ?_
 refine acG 0 3 fun _=> ?_
 refine w_ ?_
 refine xbx 2 ?_
 refine w5 ?_
 refine lc (dK (Xe a b r t) Hg) ?_
 refine w_ ?_
 cases v:(ZS b a)
 refine w8 ?_
 have h:(false:Bool)=(ZS b a&&X8 c a.2.1):=by
  (simp_all; done)
 exact fi_ [] d ⟨rfl,rfl,trivial⟩ (h0:=by rw[← h] <;> rfl)
 refine w3 ?_
 refine lgy rfl rfl (dK (XW c a.2.1 u) Hf) ?_
 refine w4 ?_
 have m:(X8 c a.2.1:Bool)=(ZS b a&&X8 c a.2.1):=by
  (simp_all; done)
 exact fi_ [] d ⟨rfl,rfl,trivial⟩ (h0:=(congrArg (fun z_=>lB z_) m))
theorem K3 (l:QiX)(b:ByteArray)(c:ZB)(B:∀a∈l,((0≤a.1∧a.1 < (b.size:Int))∧0≤a.2.2.2∧a.2.2.2 < (b.size:Int))∧a.2.1 < (c.1.length:Int)):FC Tryz.prog 313 [(false,[.dat Qu l]),(false,[.clo 419 [0,1]])] [bx 0 9 [dS b],bx 1 27 [.dat Ql c.1, .dat Qm c.2.1, .dat Qu c.2.2]] 2 (Is (lI (Zl (fun a:DAr=>ZS b a&&X8 c a.2.1) l)) [bx 0 9 [dS b],bx 1 27 [.dat Ql c.1, .dat Qm c.2.1, .dat Qu c.2.2]]):=by
 refine Qt Tryz.func313 rfl rfl Tryz.ntmps313 fun D r C t E z w=> ?_
 refine w6 ?_
 refine alL 6 fun _=> ?_
 refine w4 ?_
 refine lpK l.length (fun k=>NoneTo (fun a:DAr=>ZS b a&&X8 c a.2.1) l k) (fun k=>⟨[(0,lf (.dat Qu l)),(1,lf (.clo 419 [0,1])),(7,lI (l.length:Int)),(8,lI (k:Int))],[bx 0 9 [dS b],bx 1 27 [.dat Ql c.1, .dat Qm c.2.1, .dat Qu c.2.2]]⟩) (NoneTo.zero) ?_ fun k _ d=> ?_
 exact wo []
 refine w4 ?_
 cases o:(decide ((k:Int) < (l.length:Int)))
 have p:=aa o
 refine w7 ?_
 have u:((-1):Int)=(Zl (fun a:DAr=>ZS b a&&X8 c a.2.1) l):=by
  first | exact (d.no (by omega)).symm
 exact fi_ [] r ⟨rfl,rfl,trivial⟩ (h0:=by rw[← u] <;> rfl)
 have p:=ab o
 refine w12 ?_
 obtain ⟨m,h⟩:=gx l k
 have e:=B _ (ah h)
 refine w2 ?_
 refine lc (Xu (args0:=[(true,[dI m.1,dI m.2.1,dB m.2.2.1,dI m.2.2.2])]) (caps:=[0,1]) 2 [(0,0),(1,1)] (Qc9 m b c e.1.1 e.1.2 e.2) Qkw rfl (Qa rfl) rfl rfl ⟨_,_,rfl,(Qo rfl),rfl⟩ ⟨rfl,rfl,trivial⟩ rfl ⟨trivial,trivial,trivial⟩ (nlr rfl)) ?_
 refine w_ ?_
 cases A:(ZS b m&&X8 c m.2.1)
 refine w6 ?_
 refine Qb ?_
 refine lK_ (d.step h ‹_›) ?_
 exact wo []
 refine w6 ?_
 have v:((k:Int):Int)=(Zl (fun a:DAr=>ZS b a&&X8 c a.2.1) l):=by
  exact (d.at h ‹_›).symm
 exact fi_ [] r ⟨rfl,rfl,trivial⟩ (h0:=by rw[v] <;> rfl)
theorem Ui (l:QiX)(b:ByteArray)(c:ZB)(p:∀a∈l,((0≤a.1∧a.1 < (b.size:Int))∧0≤a.2.2.2∧a.2.2.2 < (b.size:Int))∧a.2.1 < (c.1.length:Int)):FC Tryz.prog 203 [(false,[.dat Qu l]),(false,[.clo 419 [0,1]])] [bx 0 9 [dS b],bx 1 27 [.dat Ql c.1, .dat Qm c.2.1, .dat Qu c.2.2]] 2 (Is (lB (l.any (fun a:DAr=>ZS b a&&X8 c a.2.1))) [bx 0 9 [dS b],bx 1 27 [.dat Ql c.1, .dat Qm c.2.1, .dat Qu c.2.2]]):=by
 refine Qt Tryz.func203 rfl rfl Tryz.ntmps203 fun t o r d u m h=> ?_
 refine w6 ?_
 refine lc (dP 2 [] (K3 l b c p) QaA) ?_
 refine w4 ?_
 have e:(decide (0≤(Zl (fun a:DAr=>ZS b a&&X8 c a.2.1) l)):Bool)=(l.any (fun a:DAr=>ZS b a&&X8 c a.2.1)):=by
  exact VQ _ _
 exact fi_ [] o ⟨rfl,rfl,trivial⟩ (h0:=by rw[e] <;> rfl)
theorem QbS (c:ZB)(sig:Int)(F:SgOk c)(E:0≤sig∧sig≤7):FC Tryz.prog 462 [(true,[.dat Ql c.1, .dat Qm c.2.1, .dat Qu c.2.2]),(false,[dI sig])] [] 0 (YJ 3 .int (Ji c sig c.2.2.length)):=by
 have D:∀a∈c.2.2,InR c.2.1.length a:=fun a o=>XE (F.arcs a o)
 have X:=F.some_
 have V:=F.few
 have Y:=F.sigs.2.2
 have W:=Qbw (n:=c.2.1.length) (as_:=c.2.2)
 refine Qt Tryz.func462 rfl rfl Tryz.ntmps462 fun O_ U Z R X_ T S=> ?_
 refine acI 1 fun _=> ?_
 refine w_ ?_
 refine xbx 0 ?_
 refine w3 ?_
 refine lc (dBs 1 (e:= .int) Yj) ?_
 refine w_ ?_
 refine lc (dK (V6 c F.w).frozen Qej) ?_
 refine w7 ?_
 refine alL 13 fun _=> ?_
 refine w4 ?_
 refine lp0 c.2.2.length (fun k=>⟨[(1,lI sig),(4,lf (.val (.slice none 0 0))),(5,lR 2),(6,lf (.dat QA (X6 c.2.1.length c.2.2))),(13,lf (.dat Qu c.2.2)),(14,lI (c.2.2.length:Int)),(15,lI (k:Int))],[(2,some (.arr 3 .int (Ji c sig k)))]⟩) ?_ fun k _=> ?_
 exact wp [(2,1)] ⟨(Qe (rfl)),trivial⟩
 have O:=Kl (f:=QmS c sig) (as_:=c.2.2) (k:=k)
 have P:(Ji c sig k).length≤k:=O
 refine w4 ?_
 cases J:(decide ((k:Int) < (c.2.2.length:Int)))
 have K:=aa J
 refine w7 ?_
 refine Qd<|fo_ U ?_
 (congr 1; omega)
 have K:=ab J
 refine w6 ?_
 obtain ⟨ar,b⟩:=gx c.2.2 k
 have I:=D _ (ah b)
 obtain ⟨⟨p,r⟩,t,u⟩:=I
 have M:=(F.arcs _ (ah b)).2.2.1
 have Q:ar.2.1 < (c.1.length:Int):=Ut M
 refine w2 ?_
 refine lc (xal 3 Qs Zg) ?_
 refine w3 ?_
 cases z:(!decide (ar.2.1=sig))
 have L:(ar.2.1=sig):=QM z
 apply dW (i3 20 _ _ _ (io 23 (lB false) :: i9 24 _ _ _ _ _ _ _ _ _ (i9 33 _ _ _ _ _ _ _ _ _ []))) [0,0,3,0,0,0,32,32,0,0,992,2016,2016,992,992,0,65504,65504,0,0,0,0]
 refine z3 ?_
 refine zz (fun _ d=>ac (QC (QeM (QqS z)) (QaT (d.v rfl) (d.v rfl) rfl)) rfl) ?_
 refine z16 ?_
 exact y2
 refine w6 ?_
 refine Qb ?_
 refine l0_ ?_
 exact wp [] ⟨(Qe (by first | exact W3 b (Qho ‹_›) | exact W3 b ((Hj (fun a o=>(D a o).1.1) ⟨⟨p,r⟩,t,u⟩ E.1 ‹_› G H).symm.trans ‹_›) | exact Ub b ((Hj (fun a o=>(D a o).1.1) ⟨⟨p,r⟩,t,u⟩ E.1 ‹_› G H).symm.trans ‹_›))),trivial⟩
 have L:¬(ar.2.1=sig):=QS z
 obtain ⟨x,N⟩:=gx (X6 c.2.1.length c.2.2) ((ar.1).toNat)
 have G:=N
 have h:=Qbt _ (ah N)
 obtain ⟨y,B⟩:=gx (X6 c.2.1.length c.2.2) ((ar.2.2.2).toNat)
 have H:=B
 have m:=Qbt _ (ah B)
 apply dW (i3 20 _ _ _ (io 23 (lB true) :: i9 24 _ _ _ _ _ _ _ _ _ (i2 33 _ _ (io 35 (lI ((x.toNat ^^^ (x.toNat &&& y.toNat):Nat):Int)) :: io 36 _ :: io 37 (lI (2*sig)) :: io 38 (lI (((x.toNat ^^^ (x.toNat &&& y.toNat):Nat):Int) / 2 ^ (2*sig).toNat)) :: io 39 (lI (((((x.toNat ^^^ (x.toNat &&& y.toNat):Nat):Int) / 2 ^ (2*sig).toNat).toNat &&& (3:Int).toNat:Nat):Int)) :: i2 40 _ _ [])))) [0,0,3,0,0,0,32,32,0,0,992,2016,2016,992,992,0,65504,65504,0,0,0,0]
 refine z3 ?_
 refine zz (fun _ d=>ac (QC (QeM (QqS z)) (QaT (d.v rfl) (d.v rfl) rfl)) rfl) ?_
 refine z11 ?_
 refine zz (fun _ d=>day rfl (d.k rfl) (Qke (d.v rfl) (d.v rfl) rfl (by first | exact h | exact m | exact cI (nn2 h m) (cF (by decide)) | omega | exact cp _) (by first | exact h | exact m | exact cI (nn2 h m) (cF (by decide)) | omega | exact cp _)) rfl) ?_
 refine z_ ?_
 refine zz (fun _ d=>day rfl (d.k rfl) (Vg (Qp rfl) (d.v rfl) rfl (by omega)) rfl)<|zz (fun _ d=>day rfl (d.k rfl) (Qek (d.v rfl) (d.v rfl) rfl (by omega) (by first | exact h | exact m | exact cI (nn2 h m) (cF (by decide)) | omega | exact cp _)) rfl)<|zz (fun _ d=>day rfl (d.k rfl) (QdU (d.v rfl) (Qp rfl) rfl (by first | exact h | exact m | exact cI (nn2 h m) (cF (by decide)) | omega | exact cp _) (by omega)) rfl) ?_
 exact y2
 cases A:(!decide ((((((x.toNat ^^^ (x.toNat &&& y.toNat):Nat):Int) / 2 ^ (2*sig).toNat).toNat &&& (3:Int).toNat:Nat):Int)=0))
 have C:((((((x.toNat ^^^ (x.toNat &&& y.toNat):Nat):Int) / 2 ^ (2*sig).toNat).toNat &&& (3:Int).toNat:Nat):Int)=0):=QM A
 refine w6 ?_
 refine Qb ?_
 refine l0_ ?_
 exact wp [] ⟨(Qe (by first | exact W3 b (Qho ‹_›) | exact W3 b ((Hj (fun a o=>(D a o).1.1) ⟨⟨p,r⟩,t,u⟩ E.1 ‹_› G H).symm.trans ‹_›) | exact Ub b ((Hj (fun a o=>(D a o).1.1) ⟨⟨p,r⟩,t,u⟩ E.1 ‹_› G H).symm.trans ‹_›))),trivial⟩
 have C:¬((((((x.toNat ^^^ (x.toNat &&& y.toNat):Nat):Int) / 2 ^ (2*sig).toNat).toNat &&& (3:Int).toNat:Nat):Int)=0):=QS A
 refine w4 ?_
 refine lc (dBs 4 (e:= .int) Yj) ?_
 refine lc (dA 5 Y4) ?_
 refine w_ ?_
 refine Qb ?_
 refine w4 ?_
 refine Qb ?_
 refine l0_ ?_
 exact wp [(2,5)] ⟨(Qe (by first | exact W3 b (Qho ‹_›) | exact W3 b ((Hj (fun a o=>(D a o).1.1) ⟨⟨p,r⟩,t,u⟩ E.1 ‹_› G H).symm.trans ‹_›) | exact Ub b ((Hj (fun a o=>(D a o).1.1) ⟨⟨p,r⟩,t,u⟩ E.1 ‹_› G H).symm.trans ‹_›))),trivial⟩
theorem VS (c:ZB)(b:SgOk c):FC Tryz.prog 421 [(true,[.dat Ql c.1, .dat Qm c.2.1, .dat Qu c.2.2])] [] 0 (Q7 (lI (Ue c))):=by
 have H:∀a∈c.2.2,InR c.2.1.length a:=fun a u=>XE (b.arcs a u)
 have C:=b.some_
 have z:=b.few
 have D:=b.sigs.2.2
 have m:=QbX (ss:=c.1) (k:=c.1.length)
 refine Qt Tryz.func421 rfl rfl Tryz.ntmps421 fun F t E o G r p=> ?_
 refine w_ ?_
 refine xbx 0 ?_
 refine w8 ?_
 refine lc (dK (Jb c (by omega)).frozen Qep) ?_
 refine alL 7 fun _=> ?_
 refine w4 ?_
 refine lp0 ((Z3 c.1 c.1.length).length) (fun k=>⟨[(1,lP 0 0),(2,lI 0),(3,lI (HJ c ((Z3 c.1 c.1.length).take k))),(7,lf (.dat QA (Z3 c.1 c.1.length))),(8,lI ((Z3 c.1 c.1.length).length:Int)),(9,lI (k:Int))],[bx 0 27 [.dat Ql c.1, .dat Qm c.2.1, .dat Qu c.2.2]]⟩) ?_ fun k _=> ?_
 exact Wk.of [] rfl ⟨rfl,rfl,(show some (lI 0)=some (lI (HJ c ((Z3 c.1 c.1.length).take 0))) from congrArg (fun z_=>some (lI z_)) (rfl)),rfl,rfl,rfl,trivial⟩ ⟨rfl,trivial⟩ rfl rfl
 have w:=QqM (k:=k) b m
 refine w4 ?_
 cases d:(decide ((k:Int) < ((Z3 c.1 c.1.length).length:Int)))
 have e:=aa d
 refine w7 ?_
 refine Qd<|fqI t ?_
 exact Qtv (by omega) rfl
 have e:=ab d
 refine w5 ?_
 obtain ⟨sg,h⟩:=gx (Z3 c.1 c.1.length) k
 obtain ⟨I,B,A,_⟩:=U5.1 (ah h)
 have v:(Ji c sg c.2.2.length).length≤c.2.2.length:=Kl
 refine w2 ?_
 refine alI 12 fun _=> ?_
 refine w6 ?_
 refine lc (dO 1 (QbS c sg b (by omega)) Qlm) ?_
 refine w3 ?_
 refine Qb ?_
 refine w4 ?_
 refine Qb ?_
 refine l0_ ?_
 exact Wk.of [] rfl ⟨rfl,rfl,(show some (lI ((HJ c ((Z3 c.1 c.1.length).take k))+((Ji c sg c.2.2.length).length:Int)))=some (lI (HJ c ((Z3 c.1 c.1.length).take (k+1)))) from congrArg (fun z_=>some (lI z_)) (QpG h)),rfl,rfl,rfl,trivial⟩ ⟨rfl,trivial⟩ rfl rfl
theorem Qcq (c:ZB)(sig:Int)[∀c,Decidable (SgOk c)]:FC Tryz.prog 396 [(true,[.dat Ql c.1, .dat Qm c.2.1, .dat Qu c.2.2]),(false,[dI sig])] [] 0 (Q7 (lB (decide (SgOk c∧(0≤sig∧sig≤(c.1.length:Int) - 1))))):=by
 refine Qt Tryz.func396 rfl rfl Tryz.ntmps396 fun r e p h t o m=> ?_
 refine acI 1 fun _=> ?_
 refine w_ ?_
 refine xbx 0 ?_
 refine w4 ?_
 refine lc (dK (YO c) WZ) ?_
 refine w_ ?_
 cases b:(decide (SgOk c))
 have d:=aa b
 refine w9 ?_
 refine Qd<|fqB e ?_
 ·(simp_all; done)
 have d:=ab b
 refine w3 ?_
 refine alL 10 fun _=> ?_
 refine w2 ?_
 refine lgy rfl rfl (dK (XD sig 0 ((c.1.length:Int) - 1)) WQ) ?_
 refine w3 ?_
 refine Qd<|fqB e ?_
 ·(simp_all; done)
theorem H4 (c:ZB)(sig:Int)(up:Bool)(A:c.2.2.length≤4000):FC Tryz.prog 423 [(true,[.dat Ql c.1, .dat Qm c.2.1, .dat Qu c.2.2]),(false,[dI sig]),(false,[dB up])] [] 0 (YJ 3 .int (exS sig up c.2.2)):=by
 refine Qt Tryz.func423 rfl rfl Tryz.ntmps423 fun w t v o z r p=> ?_
 refine acI 1 fun _=> ?_
 refine w_ ?_
 refine xbx 0 ?_
 refine w9 ?_
 refine alL 11 fun _=> ?_
 refine w4 ?_
 refine AC.wk (Wk.nilS 1 7 3 .int rfl (Fresh.of rfl) (nlr rfl)) ?_
 refine lp0 c.2.2.length (fun k=>⟨[(1,lI sig),(2,lB up),(6,lf (.val (.slice none 0 0))),(7,lR 2),(11,lf (.dat Qu c.2.2)),(12,lI (c.2.2.length:Int)),(13,lI (k:Int))],[(2,some (.arr 3 .int (exS sig up (c.2.2.take k))))]⟩) ?_ fun k _=> ?_
 exact wp [(2,1)] ⟨(Qe (rfl)),trivial⟩
 have u:=Qvo (sig:=sig) (up:=up) (as_:=c.2.2) (k:=k)
 refine w4 ?_
 cases d:(decide ((k:Int) < (c.2.2.length:Int)))
 have e:=aa d
 refine w7 ?_
 refine Qd<|fo_ t ?_
 rw[QH (by omega)]
 have e:=ab d
 refine w5 ?_
 obtain ⟨ar,b⟩:=gx c.2.2 k
 refine w2 ?_
 refine lc (xal 3 Qs Zg) ?_
 refine w6 ?_
 refine lc (dK (UD ar sig up) Qau) ?_
 refine w_ ?_
 cases h:(decide (ar.2.1=sig∧ar.2.2.1=up))
 have m:=aa h
 refine w6 ?_
 refine Qb ?_
 refine l0_ ?_
 exact wp [] ⟨(Qe (by first | exact Qju b ‹_› | exact Qng b ‹_›)),trivial⟩
 have m:=ab h
 refine w5 ?_
 refine alI 23 fun _=> ?_
 refine lc (dP 4 [(0,2)] (Y5 (exS sig up (c.2.2.take k)) ar.1 (by omega)) WP) ?_
 refine w_ ?_
 refine Qb ?_
 refine w4 ?_
 refine Qb ?_
 refine l0_ ?_
 exact wp [(2,4)] ⟨(Qe (by first | exact Qju b ‹_› | exact Qng b ‹_›)),trivial⟩
theorem Jm (c:ZB)(sig:Int)[∀c,Decidable (SgOk c)]:FC Tryz.prog 342 [(true,[.dat Ql c.1, .dat Qm c.2.1, .dat Qu c.2.2]),(false,[dI sig])] [] 0 (Is (PV.tup [(false,[.ref 0]),(false,[dB (decide (SgOk c∧(0≤sig∧sig≤(c.1.length:Int) - 1)))])]) [(0,some (.arr 3 .int (if SgOk c∧(0≤sig∧sig≤(c.1.length:Int) - 1) then Ji c sig c.2.2.length else [])))]):=by
 refine Qt Tryz.func342 rfl rfl Tryz.ntmps342 fun P F O G Q K J=> ?_
 refine acI 1 fun _=> ?_
 refine w_ ?_
 refine xbx 0 ?_
 refine w7 ?_
 refine lc (dK (Qcq c sig) QlG) ?_
 refine w2 ?_
 cases z:(decide (SgOk c∧(0≤sig∧sig≤(c.1.length:Int) - 1)))
 have A:=aa z
 refine w5 ?_
 refine AC.wk (Wk.nilS 1 4 3 .int rfl (Fresh.of rfl) (nlr rfl))<|Qd ?_
 have H:(false:Bool)=(decide (SgOk c∧(0≤sig∧sig≤(c.1.length:Int) - 1))):=by
  (simp[*]; done)
 exact fi_ [(0,1)] F ⟨(Qe (by (rw[if_neg ‹_›]; done))),trivial⟩ (h0:=by rw[← H] <;> rfl)
 have A:=ab z
 refine w2 ?_
 refine Yo ?_
 have d:SgOk c∧(0≤sig∧sig≤(c.1.length:Int) - 1):=by assumption
 have N:=d.1
 have D:=N.few
 have L:([false,true]:List Bool).length=2:=rfl
 refine w5 ?_
 refine lc (dBs 2 (e:= .bool) Qyi) ?_
 refine w4 ?_
 refine AC.wk (Wk.nilS 3 6 3 .int rfl (Fresh.of rfl) (nlr rfl)) ?_
 refine lp0 2 (fun k=>⟨[(1,lI sig),(2,lP 0 0),(4,lf (.val (.slice none 0 0))),(5,lB false),(6,lR 4),(16,lR 2),(17,lI (([false,true]).length:Int)),(18,lI (k:Int))],[bx 0 27 [.dat Ql c.1, .dat Qm c.2.1, .dat Qu c.2.2],(2,some (.arr 4 .bool ([false,true]))),(4,some (.arr 3 .int (Qii c sig k)))]⟩) ?_ fun k _=> ?_
 exact wp [(4,3)] ⟨rfl,rfl,(Qe (rfl)),trivial⟩
 refine w4 ?_
 cases B:(decide ((k:Int) < (([false,true]).length:Int)))
 have C:=aa B
 refine w9 ?_
 have I:(true:Bool)=(decide (SgOk c∧(0≤sig∧sig≤(c.1.length:Int) - 1))):=by
  (simp[*]; done)
 exact fi_ [(0,4)] F ⟨(Qe (by (rw[if_pos d,show k=2 by omega,Qs6]; done))),trivial⟩ (h0:=by rw[← I] <;> rfl)
 have C:=ab B
 refine w6 ?_
 obtain ⟨u,E⟩:=gx ([false,true]) k
 refine w7 ?_
 refine lc (dK (H4 c sig u D).frozen QkA) ?_
 refine w5 ?_
 refine alL 27 fun _=> ?_
 refine w4 ?_
 refine lp0 c.2.2.length (fun i=>⟨[(1,lI sig),(2,lP 0 0),(4,lf (.val (.slice none 0 0))),(5,lB false),(6,lR 5),(8,lB u),(9,lf (.dat QA (exS sig u c.2.2))),(16,lR 2),(17,lI (([false,true]).length:Int)),(18,lI (k:Int)),(19,lB true),(20,lf (.ept 2 1 k 0)),(21,lB u),(22,ag [.dat Ql c.1, .dat Qm c.2.1, .dat Qu c.2.2]),(23,lI sig),(24,lB u),(25,lf (.dat QA (exS sig u c.2.2))),(26,lP 0 2),(27,lf (.dat Qu c.2.2)),(28,lI (c.2.2.length:Int)),(29,lI (i:Int))],[bx 0 27 [.dat Ql c.1, .dat Qm c.2.1, .dat Qu c.2.2],(2,some (.arr 4 .bool ([false,true]))),(5,some (.arr 3 .int (Jg c sig u (Qii c sig k) i)))]⟩) ?_ fun i _=> ?_
 exact wp [(5,4)] ⟨rfl,rfl,(Qe (rfl)),trivial⟩
 have M:=Qtd (c:=c) (sig:=sig) (up:=u) (k:=i) (l:=Qii c sig k) (Qjn k) (Qsc k) (by omega)
 refine w4 ?_
 cases h:(decide ((i:Int) < (c.2.2.length:Int)))
 have r:=aa h
 refine w6 ?_
 refine Qb ?_
 refine l0_ ?_
 exact wp [(4,5)] ⟨rfl,rfl,(Qe ((by rw[show i=c.2.2.length by omega]; exact QqA (by omega) E))),trivial⟩
 have r:=ab h
 refine w6 ?_
 obtain ⟨ar,b⟩:=gx c.2.2 i
 refine w2 ?_
 refine lc (xal 6 Qs Zg) ?_
 refine w6 ?_
 refine alI 35 fun _=> ?_
 refine w3 ?_
 cases m:(!decide (ar.2.1=sig))
 have t:(ar.2.1=sig):=QM m
 refine w16 ?_
 refine w3 ?_
 refine Qb ?_
 refine l0_ ?_
 exact wp [] ⟨rfl,rfl,(Qe (by first | exact QbJ b (Qih ‹_› ‹_› ‹_›) | exact XY b (Qh8 ‹_›) | exact XY b (Qh9 ‹_›) | exact XY b (QiB ‹_›))),trivial⟩
 have t:¬(ar.2.1=sig):=QS m
 refine w3 ?_
 refine lgy rfl rfl (dK (Z7 (exS sig u c.2.2) ar.1) YX) ?_
 refine w2 ?_
 cases o:(decide (ar.1∈(exS sig u c.2.2)))
 have v:=aa o
 refine w13 ?_
 refine Qb ?_
 refine l0_ ?_
 exact wp [] ⟨rfl,rfl,(Qe (by first | exact QbJ b (Qih ‹_› ‹_› ‹_›) | exact XY b (Qh8 ‹_›) | exact XY b (Qh9 ‹_›) | exact XY b (QiB ‹_›))),trivial⟩
 have v:=ab o
 refine w3 ?_
 refine lgy rfl rfl (dK (Z7 (exS sig u c.2.2) ar.2.2.2) YX) ?_
 refine w3 ?_
 cases p:(decide (ar.2.2.2∈(exS sig u c.2.2)))
 have w:=aa p
 refine w4 ?_
 refine lc (dP 7 [(0,5)] (Y5 (Jg c sig u (Qii c sig k) i) (i:Int) (by omega)) WP) ?_
 refine w_ ?_
 refine Qb ?_
 refine w4 ?_
 refine Qb ?_
 refine l0_ ?_
 exact wp [(5,7)] ⟨rfl,rfl,(Qe (by first | exact QbJ b (Qih ‹_› ‹_› ‹_›) | exact XY b (Qh8 ‹_›) | exact XY b (Qh9 ‹_›) | exact XY b (QiB ‹_›))),trivial⟩
 have w:=ab p
 refine w6 ?_
 refine Qb ?_
 refine l0_ ?_
 exact wp [] ⟨rfl,rfl,(Qe (by first | exact QbJ b (Qih ‹_› ‹_› ‹_›) | exact XY b (Qh8 ‹_›) | exact XY b (Qh9 ‹_›) | exact XY b (QiB ‹_›))),trivial⟩
theorem Wi (c:ZB)[∀c,Decidable (SgOk c)]:FC Tryz.prog 237 [(true,[.dat Ql c.1, .dat Qm c.2.1, .dat Qu c.2.2])] [] 0 (Q7 (PV.tup [(false,[dI (if SgOk c then Ue c else 0)]),(false,[dB (decide (SgOk c))])])):=by
 refine Qt Tryz.func237 rfl rfl Tryz.ntmps237 fun L z K B M H G=> ?_
 refine w_ ?_
 refine xbx 0 ?_
 refine w6 ?_
 refine lc (dK (YO c) WZ) ?_
 refine w2 ?_
 cases p:(decide (SgOk c))
 have r:=aa p
 refine w6 ?_
 have C:(0:Int)=(if SgOk c then Ue c else 0):=by
  (rw[if_neg ‹_›]; done)
 have D:(false:Bool)=(decide (SgOk c)):=by
  (simp[*]; done)
 exact fr_ z (e:=by rw[← C,← D] <;> rfl)
 have r:=ab p
 refine w2 ?_
 refine Yo ?_
 have o:SgOk c:=by assumption
 refine w7 ?_
 refine alL 13 fun _=> ?_
 refine w4 ?_
 refine lp0 c.1.length (fun k=>⟨[(1,lP 0 0),(2,lI 0),(3,lB false),(4,lI (Vw c k)),(13,lf (.dat Ql c.1)),(14,lI (c.1.length:Int)),(15,lI (k:Int))],[bx 0 27 [.dat Ql c.1, .dat Qm c.2.1, .dat Qu c.2.2]]⟩) ?_ fun k _=> ?_
 exact Wk.of [] rfl ⟨rfl,rfl,rfl,(show some (lI 0)=some (lI (Vw c 0)) from congrArg (fun z_=>some (lI z_)) (rfl)),rfl,rfl,rfl,trivial⟩ ⟨rfl,trivial⟩ rfl rfl
 have I:=QsC (k:=k) o (by omega)
 have v:(Ji c (k:Int) c.2.2.length).length≤c.2.2.length:=Kl
 have J:=o.few
 have w:k < c.1.length→(if SgOk c∧(0≤(k:Int)∧(k:Int)≤(c.1.length:Int) - 1) then Ji c (k:Int) c.2.2.length else []).length≤c.2.2.length:=fun h=>by rw[if_pos ⟨o,by omega⟩]; exact v
 refine w4 ?_
 cases t:(decide ((k:Int) < (c.1.length:Int)))
 have u:=aa t
 refine w9 ?_
 have E:(Vw c k:Int)=(if SgOk c then Ue c else 0):=by
  (rw[if_pos o,show k=c.1.length by omega]; rfl)
 have F:(true:Bool)=(decide (SgOk c)):=by
  (simp[*]; done)
 exact fr_ z (e:=by rw[E,← F] <;> rfl)
 have u:=ab t
 refine w6 ?_
 obtain ⟨sg,b⟩:=gx c.1 k
 have A:=w (by omega)
 refine w2 ?_
 refine lc (xal 1 Qz WA) ?_
 refine w6 ?_
 refine lc (dG 2 (Jm c (k:Int)) QmR) ?_
 refine w9 ?_
 refine alI 27 fun _=> ?_
 refine w2 ?_
 cases d:(!decide (sg.2=1))
 have m:(sg.2=1):=QM d
 refine w6 ?_
 refine Qb ?_
 refine l0_ ?_
 exact Wk.of [] rfl ⟨rfl,rfl,rfl,(show some (lI (Vw c k))=some (lI (Vw c (k+1))) from congrArg (fun z_=>some (lI z_)) (by first | exact Qnf b ‹_› | (rw[if_pos ⟨o,by omega⟩]; exact Qi4 b ‹_›))),rfl,rfl,rfl,trivial⟩ ⟨rfl,trivial⟩ rfl rfl
 have m:¬(sg.2=1):=QS d
 refine w7 ?_
 refine Qb ?_
 refine w4 ?_
 refine Qb ?_
 refine l0_ ?_
 exact Wk.of [] rfl ⟨rfl,rfl,rfl,(show some (lI ((Vw c k)+((if SgOk c∧(0≤(k:Int)∧(k:Int)≤(c.1.length:Int) - 1) then Ji c (k:Int) c.2.2.length else []).length:Int)))=some (lI (Vw c (k+1))) from congrArg (fun z_=>some (lI z_)) (by first | exact Qnf b ‹_› | (rw[if_pos ⟨o,by omega⟩]; exact Qi4 b ‹_›))),rfl,rfl,rfl,trivial⟩ ⟨rfl,trivial⟩ rfl rfl
end Go.Proofs.YtgpdhgadmjfokaaGreat
