/- Walks over abstract states: arcs that disable a signal, how many there are; arcs that delay an input. -/
import Derived.Test.YtndabgcpnmeeoaaGreatPUe
set_option linter.unusedSimpArgs false
set_option linter.unusedVariables false
set_option linter.unusedSectionVars false
namespace Go.Proofs.YtndabgcpnmeeoaaGreat
open Go.RowKit
set_option maxRecDepth 100000
set_option maxHeartbeats 4000000
def QaR (c:DSg)(s:ByteArray):Bool:=c.2.2.any fun a=>ZK s a&&Yu c a.2.1
def WI (f:DAr→Bool)(as_:List DAr)(k:Nat):List Int:=((List.range k).filter fun i=>match as_[i]? with | some a=>f a | none=>false).map fun i=>((i:Nat):Int)
def exL (c:DSg)(q sig:Int)(up:Bool):Bool:=c.2.2.any fun a=>decide (a.1=q∧a.2.1=sig∧a.2.2.1=up)
def QaT (c:DSg)(sig:Int)(up:Bool)(a:DAr):Bool:= !decide (a.2.1=sig)&&(exL c a.1 sig up&& !exL c a.2.2.2 sig up)
def Ql1 (c:DSg)(sig:Int)(a:DAr):Bool:=QaT c sig false a||QaT c sig true a
abbrev JW (c:DSg)(sig:Int)(k:Nat):List Int:=WI (Ql1 c sig) c.2.2 k
def VC (c:DSg)(k:Nat):Int:=((Q6 c.1 k).map fun s=>((JW c s c.2.2.length).length:Int)).sum
def Ul (c:DSg):Int:=VC c c.1.length
def Qjw (sig:Int)(up:Bool)(l:List Int)(a:DAr):List Int:=if a.2.1=sig∧a.2.2.1=up then XH ltI a.1 l else l
def exS (sig:Int)(up:Bool)(as_:List DAr):List Int:=as_.foldl (Qjw sig up) []
def JX (c:DSg)(sig:Int)(up:Bool)(l:List Int)(k:Nat):List Int:=(WI (QaT c sig up) c.2.2 k).foldl (fun l i=>XH ltI i l) l
def QiY (c:DSg)(sig:Int):Nat→List Int
 | 0=>[]
 | 1=>JX c sig false [] c.2.2.length
 | _=>JX c sig true (JX c sig false [] c.2.2.length) c.2.2.length
section
variable {c:DSg}{as_:List DAr}{a:DAr}{i j k n:Nat}{s:ByteArray}{sig q x y:Int}{up:Bool}{l:List Int}{f g:DAr→Bool}
theorem Ut (b:as_[k]? =some a)(h:f a=true):WI f as_ k++[(k:Int)]=WI f as_ (k+1):=by
 unfold WI
 rw[bJ,aZ,bl]; simp[b,h]
theorem Vg (b:as_[k]? =some a)(h:f a=false):WI f as_ k=WI f as_ (k+1):=by
 unfold WI
 rw[bJ,aZ,bl]; simp[b,h]
theorem KW:(WI f as_ k).length≤k:=by unfold WI; rw[aF]; exact aU (bK ..) (by simp)
theorem KX:x∈WI f as_ k↔∃(j:Nat) (a:DAr),x=(j:Int)∧j < k∧as_[j]? =some a∧f a=true:=by
 unfold WI
 simp only[bF,cn,cj]
 constructor
 ·rintro ⟨j,⟨d,b⟩,rfl⟩
  cases e:as_[j]? with
  | none=>rw[e] at b; cases b
  | some a=>rw[e] at b; exact ⟨j,a,rfl,d,e,b⟩
 ·rintro ⟨j,a,rfl,d,b,h⟩; exact ⟨j,⟨d,by rw[b]; exact h⟩,rfl⟩
theorem QsX:(WI f as_ k).Pairwise fun x y=>ltI x y=true:=by
 induction k with
 | zero=>exact bZ
 | succ k d=>
  cases b:as_[k]? with
  | none=>
   have:WI f as_ (k+1)=WI f as_ k:=by unfold WI; rw[bJ,aZ,bl]; simp[b]
   rw[this]; exact d
  | some a=>
   cases e:f a with
   | false=>rw[← Vg b e]; exact d
   | true=>
    rw[← Ut b e,List.pairwise_append]
    refine ⟨d,List.pairwise_singleton ..,fun x o y m=> ?_⟩
    rw[aS] at m
    obtain ⟨j,_,rfl,h,_⟩:=KX.1 o
    simp[ltI,m]; omega
theorem Qk9 {v:Int}(h:(WI f as_ k)[i]? =some v):∃(j:Nat) (a:DAr),v=(j:Int)∧j < k∧as_[j]? =some a∧f a=true:=KX.1 (ah h)
theorem Qr6 (u:∀j,j < i→∀v,(WI (ZK s) c.2.2 c.2.2.length)[j]? =some v→∀a,c.2.2[v.toNat]? =some a→Yu c a.2.1=false)(h:(WI (ZK s) c.2.2 c.2.2.length).length≤i):true= !QaR c s:=by
 cases e:QaR c s with
 | false=>rfl
 | true=>
  unfold QaR at e
  obtain ⟨a,p,b⟩:=bY.1 e
  rw[aI] at b
  obtain ⟨j,d⟩:=aN.1 p
  have r:=(ai.1 d).1
  obtain ⟨m,o⟩:=aN.1 (KX (k:=c.2.2.length).2 ⟨j,a,rfl,r,d,b.1⟩)
  have t:=(ai.1 o).1
  have:=u m (by omega) _ o a (by simpa using d)
  rw[b.2] at this; cases this
theorem Qqa {v:Int}(hv:(WI (ZK s) c.2.2 c.2.2.length)[i]? =some v)(m:c.2.2[v.toNat]? =some a)(h:Yu c a.2.1=true):false= !QaR c s:=by
  obtain ⟨j,b,rfl,_,d,o⟩:=Qk9 hv
  have e : b = a := by have : c.2.2[j]? = some a := by simpa using m
                       rw[d] at this; exact cC this
  subst e
  have:QaR c s=true:=bY.2 ⟨b,ah d,by rw[o,h]; rfl⟩
  rw[this]; rfl
theorem QxL (m n t:Nat):(((m ^^^ (m &&& n)) / 2 ^ t) &&& 3=0)↔(∀e,e < 2→(m.testBit (t+e)=true→n.testBit (t+e)=true)):=by
 rw[QwW]
 simp only[Nat.testBit_xor,Nat.testBit_and]
 constructor
 ·rintro ⟨d,o⟩ e p b
  match e,p with
  | 0,_=>simp only[cz] at b ⊢; rw[b] at d; cases r:n.testBit t <;> simp_all
  | 1,_=>rw[b] at o; cases r:n.testBit (t+1) <;> simp_all
 ·intro h
  have d:=h 0 (by omega)
  have o:=h 1 (by omega)
  simp only[cz] at d
  constructor
  ·cases b:m.testBit t with
   | false=>rfl
   | true=>rw[d b]; rfl
  ·cases b:m.testBit (t+1) with
   | false=>rfl
   | true=>rw[o b]; rfl
theorem Qpp (p:∀a∈c.2.2,0≤a.1)(m:k < c.2.1.length)(u:0≤sig)(up:Bool):(mAt (YT c.2.1.length c.2.2) (k:Int)).toNat.testBit ((2*sig).toNat+(if up=true then 1 else 0))=exL c k sig up:=by
 rw[bP]
 unfold mAt YT
 rw[Int.toNat_natCast,Qdl c.2.2 _ k _ p (by simpa using m)]
 unfold exL
 rw[bY]
 simp only[bS,m,if_true,aw,Int.toNat_zero,Nat.zero_testBit,aQ]
 constructor
 ·rintro (h | ⟨a,e,t,b,d⟩)
  ·cases h
  ·refine ⟨a,e,b, ?_⟩
   cases r:a.2.2.1 <;> cases up <;> simp[r] at d ⊢ <;> omega
 ·rintro ⟨a,e,b,d,o⟩
  exact .inr ⟨a,e,by omega,b,by rw[d,o]⟩
theorem H4 (v:∀a∈c.2.2,0≤a.1)(b:InR c.2.1.length a)(w:0≤sig)(h:¬a.2.1=sig)(G:(YT c.2.1.length c.2.2)[a.1.toNat]? =some x)(H:(YT c.2.1.length c.2.2)[a.2.2.2.toNat]? =some y):
 (!decide ((((((((x.toNat ^^^ (x.toNat &&& y.toNat):Nat):Int) / 2 ^ (2*sig).toNat)).toNat &&& (3:Int).toNat:Nat)):Int)=0))=Ql1 c sig a:=by
 have e:((((x.toNat ^^^ (x.toNat &&& y.toNat):Nat):Int) / 2 ^ (2*sig).toNat)).toNat=(x.toNat ^^^ (x.toNat &&& y.toNat)) / 2 ^ (2*sig).toNat:=by
  have B:(((x.toNat ^^^ (x.toNat &&& y.toNat):Nat):Int) / 2 ^ (2*sig).toNat)=(((x.toNat ^^^ (x.toNat &&& y.toNat)) / 2 ^ (2*sig).toNat:Nat):Int):=by
   rw[Int.natCast_ediv,Int.natCast_pow]; rfl
  rw[B]; rfl
 rw[e]
 have C:((((x.toNat ^^^ (x.toNat &&& y.toNat)) / 2 ^ (2*sig).toNat) &&& (3:Int).toNat:Nat):Int)=0↔((x.toNat ^^^ (x.toNat &&& y.toNat)) / 2 ^ (2*sig).toNat) &&& 3=0:=by
  show ((((x.toNat ^^^ (x.toNat &&& y.toNat)) / 2 ^ (2*sig).toNat) &&& 3:Nat):Int)=0↔_
  omega
 have d:=Jx G
 have m:=Jx H
 have o:∀up:Bool,x.toNat.testBit ((2*sig).toNat+(if up=true then 1 else 0))=exL c a.1 sig up:=fun up=>by
  have:=Qpp (k:=a.1.toNat) v (by have:=b.1; omega) w up
  rw[show ((a.1.toNat:Nat):Int)=a.1 by have:=b.1; omega,d] at this
  exact this
 have p:∀up:Bool,y.toNat.testBit ((2*sig).toNat+(if up=true then 1 else 0))=exL c a.2.2.2 sig up:=fun up=>by
  have:=Qpp (k:=a.2.2.2.toNat) v (by have:=b.2; omega) w up
  rw[show ((a.2.2.2.toNat:Nat):Int)=a.2.2.2 by have:=b.2; omega,m] at this
  exact this
 have r:=o false
 have t:=p false
 have z:=o true
 have A:=p true
 simp only[bt,if_false,if_true,cz] at r t z A
 have I:(∀e,e < 2→x.toNat.testBit ((2*sig).toNat+e)=true→y.toNat.testBit ((2*sig).toNat+e)=true)↔((x.toNat.testBit (2*sig).toNat=true→y.toNat.testBit (2*sig).toNat=true)∧(x.toNat.testBit ((2*sig).toNat+1)=true→y.toNat.testBit ((2*sig).toNat+1)=true)):=
  ⟨fun u=>⟨by simpa using u 0 (by omega),u 1 (by omega)⟩,fun ⟨D,E⟩ e F=>match e,F with
   | 0,_=>by simpa using D
   | 1,_=>E⟩
 rw[bP,bO,bE,C,QxL,I]
 unfold Ql1 QaT
 rw[← r,← t,← z,← A,aB h]
 generalize x.toNat.testBit (2*sig).toNat=X0
 generalize y.toNat.testBit (2*sig).toNat=Y0
 generalize x.toNat.testBit ((2*sig).toNat+1)=X1
 generalize y.toNat.testBit ((2*sig).toNat+1)=Y1
 cases X0 <;> cases Y0 <;> cases X1 <;> cases Y1 <;> simp
theorem QiX (h:a.2.1=sig):Ql1 c sig a=false:=by unfold Ql1 QaT; simp[h]
theorem Qli (b:as_[k]? =some a)(h:a.2.1=sig∧a.2.2.1=up):XH ltI a.1 (exS sig up (as_.take k))=exS sig up (as_.take (k+1)):=by
 unfold exS
 rw[QO b,bm]; simp[Qjw,h]
theorem QpC (b:as_[k]? =some a)(h:¬(a.2.1=sig∧a.2.2.1=up)):exS sig up (as_.take k)=exS sig up (as_.take (k+1)):=by
 unfold exS
 rw[QO b,bm]; simp[Qjw,h]
theorem QhY:∀{as_:List DAr} {l:List Int},x∈as_.foldl (Qjw sig up) l↔x∈l∨∃a∈as_,a.1=x∧a.2.1=sig∧a.2.2.1=up
 | [],l=>by simp
 | a :: as_,l=>by
  rw[aW,QhY]
  unfold Qjw
  split
  ·rename_i h
   rw[WD]
   constructor
   ·rintro ((rfl | d) | ⟨b,e,d⟩)
    ·exact .inr ⟨a,az ..,rfl,h⟩
    ·exact .inl d
    ·exact .inr ⟨b,ay _ e,d⟩
   ·rintro (d | ⟨b,e,d⟩)
    ·exact .inl (.inr d)
    ·rcases aK.1 e with rfl | e
     ·exact .inl (.inl d.1.symm)
     ·exact .inr ⟨b,e,d⟩
  ·rename_i h
   constructor
   ·rintro (d | ⟨b,e,d⟩)
    ·exact .inl d
    ·exact .inr ⟨b,ay _ e,d⟩
   ·rintro (d | ⟨b,e,d⟩)
    ·exact .inl d
    ·rcases aK.1 e with rfl | e
     ·exact absurd d.2 h
     ·exact .inr ⟨b,e,d⟩
theorem Qi6:(x∈exS sig up c.2.2)↔exL c x sig up=true:=by
 unfold exS exL
 rw[QhY,bY]
 simp
theorem QhX:∀{as_:List DAr} {l:List Int},(as_.foldl (Qjw sig up) l).length≤l.length+as_.length
 | [],l=>aJ _
 | a :: as_,l=>by
  have b:=QhX (as_:=as_) (l:=Qjw sig up l a)
  have d:(Qjw sig up l a).length≤l.length+1:=by
   unfold Qjw
   split
   ·rcases JE a.1 l with h | h
    ·rw[h]; omega
    ·omega
   ·omega
  rw[aW,au]; omega
theorem Qur:(exS sig up (as_.take k)).length≤as_.length:=by
 have:=QhX (sig:=sig) (up:=up) (as_:=as_.take k) (l:=[])
 have b:(as_.take k).length≤as_.length:=by simp only[ao]; omega
 unfold exS; simp only[aH] at this; omega
theorem QbR (b:c.2.2[k]? =some a)(h:QaT c sig up a=true):XH ltI (k:Int) (JX c sig up l k)=JX c sig up l (k+1):=by
 unfold JX
 rw[← Ut b h,bm]; rfl
theorem XX (b:c.2.2[k]? =some a)(h:QaT c sig up a=false):JX c sig up l k=JX c sig up l (k+1):=by
 unfold JX
 rw[← Vg b h]
theorem KK:∀{m l:List Int},x∈m.foldl (fun l i=>XH ltI i l) l↔x∈l∨x∈m
 | [],l=>by simp
 | y :: m,l=>by
  rw[aW,KK,WD,aK]
  constructor
  ·rintro ((h | h) | h)
   ·exact .inr (.inl h)
   ·exact .inl h
   ·exact .inr (.inr h)
  ·rintro (h | h | h)
   ·exact .inl (.inr h)
   ·exact .inl (.inl h)
   ·exact .inr h
theorem KL:∀{m l:List Int},Qp0 l→Qp0 (m.foldl (fun l i=>XH ltI i l) l)
 | [],_,h=>h
 | y :: m,l,h=>KL (m:=m) (QgL VG h)
theorem QkA (k:Nat):Qp0 (QiY c sig k):=by
 match k with
 | 0=>exact bZ
 | 1=>exact KL bZ
 | k+2=>exact KL (KL bZ)
theorem Qr8 (d:Qp0 l)(e:∀x∈l,0≤x∧x < (c.2.2.length:Int))(m:k≤c.2.2.length):(JX c sig up l k).length≤c.2.2.length:=by
 have:=JJ (l:=JX c sig up l k) (lo:=0) (hi:=c.2.2.length) (KL d) (fun x b=>by
  rcases KK.1 b with b | b
  ·exact e x b
  ·obtain ⟨j,_,rfl,h,_⟩:=KX.1 b; omega) (by omega)
 omega
theorem Qsa (k:Nat):∀x∈QiY c sig k,0≤x∧x < (c.2.2.length:Int):=by
 have h:∀{up:Bool} {l:List Int},(∀x∈l,0≤x∧x < (c.2.2.length:Int))→∀x∈JX c sig up l c.2.2.length,0≤x∧x < (c.2.2.length:Int):=fun d x b=>by
  rcases KK.1 b with b | b
  ·exact d x b
  ·obtain ⟨j,_,rfl,e,_⟩:=KX.1 b; omega
 match k with
 | 0=>intro x b; cases b
 | 1=>exact h fun x b=>by cases b
 | k+2=>exact h (h fun x b=>by cases b)
theorem Qr9:QiY c sig 2=JW c sig c.2.2.length:=by
 refine TO.ext VG (QkA 2) QsX fun x=> ?_
 show x∈JX c sig true (JX c sig false [] c.2.2.length) c.2.2.length↔_
 unfold JX
 rw[KK,KK]
 simp only[cO,false_or,KX]
 unfold Ql1
 constructor
 ·rintro (⟨j,a,d,e,h,b⟩ | ⟨j,a,d,e,h,b⟩)
  ·exact ⟨j,a,d,e,h,by rw[b]; rfl⟩
  ·exact ⟨j,a,d,e,h,by rw[b,Bool.or_true]⟩
 ·rintro ⟨j,a,d,e,h,b⟩
  rw[bU] at b
  rcases b with b | b
  ·exact .inl ⟨j,a,d,e,h,b⟩
  ·exact .inr ⟨j,a,d,e,h,b⟩
theorem Qqc (hi:i < 2){u:Bool}(b:[false,true][i]? =some u):JX c sig u (QiY c sig i) c.2.2.length=QiY c sig (i+1):=by
 match i,hi with
 | 0,_=>cases b; rfl
 | 1,_=>cases b; rfl
theorem QiZ (h:a.2.1=sig):QaT c sig up a=false:=by unfold QaT; simp[h]
theorem Qi0 (h:¬a.1∈exS sig up c.2.2):QaT c sig up a=false:=by
 rw[Qi6] at h
 unfold QaT
 rw[cq.2 h]; simp
theorem Qi1 (h:a.2.2.2∈exS sig up c.2.2):QaT c sig up a=false:=by
 rw[Qi6] at h
 unfold QaT
 rw[h]; simp
theorem Qi2 (h:¬a.2.1=sig)(b:a.1∈exS sig up c.2.2)(d:¬a.2.2.2∈exS sig up c.2.2):QaT c sig up a=true:=by
 rw[Qi6] at b d
 unfold QaT
 rw[b,cq.2 d,aB h]; rfl
theorem Quk:0≤VC c k∧VC c k≤(c.2.2.length:Int)*(k:Int):=by
 induction k with
 | zero=>exact ⟨by simp[VC,Q6],by simp[VC,Q6]⟩
 | succ k h=>
  have e:VC c (k+1)=VC c k∨VC c (k+1)=VC c k+((JW c k c.2.2.length).length:Int):=by
   unfold VC Q6
   rw[bJ,aZ]
   by_cases b:((c.1[k]?).getD (ByteArray.empty,0)).2=1
   ·left; simp[b]
   ·right; simp[b]
  have d:(JW c (k:Int) c.2.2.length).length≤c.2.2.length:=KW
  have:(c.2.2.length:Int)*((k+1:Nat):Int)=(c.2.2.length:Int)*(k:Int)+(c.2.2.length:Int):=by rw[Int.natCast_add]; simp[Int.mul_add]
  rw[this]
  rcases e with e | e <;> rw[e] <;> constructor <;> omega
theorem Qsb (b:SgOk c)(o:k≤c.1.length):0≤VC c k∧VC c k≤32000:=by
 have d:=Quk (c:=c) (k:=k)
 have e:=b.few
 have h:=b.sigs.2.2
 have m:(c.2.2.length:Int)*(k:Int)≤4000*8:=Int.mul_le_mul (by omega) (by omega) (by omega) (by decide)
 exact ⟨d.1,by omega⟩
theorem QkB {z:QM}(b:c.1[k]? =some z)(h:¬z.2=1):VC c k+((JW c (k:Int) c.2.2.length).length:Int)=VC c (k+1):=by
 unfold VC
 rw[← V5 b h,bl]; simp
theorem QoV {z:QM}(b:c.1[k]? =some z)(h:z.2=1):VC c k=VC c (k+1):=by
 unfold VC
 rw[← HH b h]
def Qan (c:DSg)(l:List Int):Int:=(l.map fun s=>((JW c s c.2.2.length).length:Int)).sum
theorem Qqd {o:List Int}(b:o[k]? =some sig):Qan c (o.take k)+((JW c sig c.2.2.length).length:Int)=Qan c (o.take (k+1)):=by
 unfold Qan
 rw[QO b,bl]; simp
theorem QoW:∀{l:List Int},0≤Qan c l∧Qan c l≤(c.2.2.length:Int)*(l.length:Int)
 | []=>by simp[Qan]
 | x :: l=>by
  have b:=QoW (l:=l)
  have d:(JW c x c.2.2.length).length≤c.2.2.length:=KW
  have e:Qan c (x :: l)=((JW c x c.2.2.length).length:Int)+Qan c l:=by simp[Qan]
  have:(c.2.2.length:Int)*(((x :: l).length:Nat):Int)=(c.2.2.length:Int)*(l.length:Int)+(c.2.2.length:Int):=by rw[au,Int.natCast_add]; simp[Int.mul_add]
  rw[this,e]
  constructor <;> omega
theorem Qsd (b:SgOk c){o:List Int}(r:o.length≤c.1.length):0≤Qan c (o.take k)∧Qan c (o.take k)≤32000:=by
 have d:=QoW (c:=c) (l:=o.take k)
 have e:=b.few
 have h:=b.sigs.2.2
 have p:(o.take k).length≤o.length:=by simp only[ao]; omega
 have m:(c.2.2.length:Int)*((o.take k).length:Int)≤4000*8:=Int.mul_le_mul (by omega) (by omega) (by omega) (by decide)
 exact ⟨d.1,by omega⟩
theorem Qsc {o:List Int}(b:o.length≤k)(h:o=Q6 c.1 c.1.length):Qan c (o.take k)=Ul c:=by rw[QT b,h]; rfl
theorem nn2 {x y:Int}(b:0≤x)(d:0≤y):0≤(((x.toNat ^^^ (x.toNat &&& y.toNat):Nat)):Int):=bC _
end
theorem Qbn (c:Zi)(s:ByteArray)(m:SignsOk c s):FC Tryz.prog 497 [(true,[.dat Ql c.1, .dat Qo c.2.1, .dat Qw c.2.2]),(false,[dS s])] [] 0 (YB 3 .int (WI (ZK s) c.2.2 c.2.2.length)):=by
 have w:=m.2.2.few
 refine Qv Tryz.func497 rfl rfl Tryz.ntmps497 fun B t A o C r p=> ?_
 refine w_ ?_
 refine xbx 0 ?_
 refine w9 ?_
 refine alL 9 fun _=> ?_
 refine w4 ?_
 refine AC.wk (Wk.nilS 1 5 3 .int rfl (Fresh.of rfl) (nlr rfl)) ?_
 refine lp0 c.2.2.length (fun k=>⟨[(1,lf (dS s)),(4,lf (.val (.slice none 0 0))),(5,lR 2),(9,lf (.dat Qw c.2.2)),(10,lI (c.2.2.length:Int)),(11,lI (k:Int))],[(2,some (.arr 3 .int (WI (ZK s) c.2.2 k)))]⟩) ?_ fun k _=> ?_
 exact wp [(2,1)] ⟨(Qe (rfl)),trivial⟩
 have z:=KW (f:=ZK s) (as_:=c.2.2) (k:=k)
 refine w4 ?_
 cases d:(decide ((k:Int) < (c.2.2.length:Int)))
 have h:=aa d
 refine w7 ?_
 refine Qd<|fo_ t ?_
 (congr 1; omega)
 have h:=ab d
 refine w6 ?_
 obtain ⟨ar,b⟩:=gx c.2.2 k
 have u:=m.at_ (ah b)
 refine w2 ?_
 refine lc (xal 3 QD QU) ?_
 refine w6 ?_
 refine lc (dK (WY s ar (by omega) (by omega)) Qa5) ?_
 refine w_ ?_
 cases v:(ZK s ar)
 refine w6 ?_
 refine Qb ?_
 refine l0_ ?_
 exact wp [] ⟨(Qe (by first | exact Ut b ‹_› | exact Vg b ‹_›)),trivial⟩
 refine w4 ?_
 refine lc (dBs 4 (e:= .int) Yk) ?_
 refine lc (dA 5 XP) ?_
 refine w_ ?_
 refine Qb ?_
 refine w4 ?_
 refine Qb ?_
 refine l0_ ?_
 exact wp [(2,5)] ⟨(Qe (by first | exact Ut b ‹_› | exact Vg b ‹_›)),trivial⟩
theorem Qee (c:Zi)(s:ByteArray)(B:SignsOk c s):FC Tryz.prog 404 [(true,[.dat Ql c.1, .dat Qo c.2.1, .dat Qw c.2.2]),(false,[dS s])] [] 0 (QY (lB (!QaR c s))):=by
 have H:=B.2.2.few
 refine Qv Tryz.func404 rfl rfl Tryz.ntmps404 fun O C N E P G F=> ?_
 refine w_ ?_
 refine xbx 0 ?_
 refine w6 ?_
 refine lc (dK (Qbn c s B).frozen Qnd) ?_
 refine alL 10 fun _=> ?_
 refine w4 ?_
 refine lpK ((WI (ZK s) c.2.2 c.2.2.length).length) (fun k=>∀j,j < k→∀v,(WI (ZK s) c.2.2 c.2.2.length)[j]? =some v→∀a,c.2.2[v.toNat]? =some a→Yu c a.2.1=false) (fun k=>⟨[(2,lP 0 0),(10,lf (.dat Qz (WI (ZK s) c.2.2 c.2.2.length))),(11,lI ((WI (ZK s) c.2.2 c.2.2.length).length:Int)),(12,lI (k:Int))],[bx 0 28 [.dat Ql c.1, .dat Qo c.2.1, .dat Qw c.2.2]]⟩) ((fun j I=>absurd I (bg j))) ?_ fun k _ p=> ?_
 exact wo []
 refine w4 ?_
 cases t:(decide ((k:Int) < ((WI (ZK s) c.2.2 c.2.2.length).length:Int)))
 have u:=aa t
 refine w6 ?_
 refine Qd<|fqB C ?_
 first | exact Qr6 p (by omega)
 have u:=ab t
 refine w5 ?_
 obtain ⟨v,b⟩:=gx (WI (ZK s) c.2.2 c.2.2.length) k
 obtain ⟨R,Q,M,L,J,K⟩:=Qk9 b
 refine w2 ?_
 refine alI 15 fun _=> ?_
 refine w6 ?_
 obtain ⟨ar,d⟩:=gx c.2.2 ((v).toNat)
 have w:=(B.2.2.arcs _ (ah d)).2.2.1
 have D:ar.2.1 < (c.1.length:Int):=Vf w
 refine w3 ?_
 refine alI 21 fun _=> ?_
 refine w6 ?_
 cases e:(decide (0≤ar.2.1))
 have m:=aa e
 refine w15 ?_
 refine Qb ?_
 refine lK_ ((Yw p b (fun a A=>by cases (d).symm.trans A; first | exact (QeH (by omega)).symm | exact (Qbr (by omega) r).symm.trans ‹_›))) ?_
 exact wo []
 have m:=ab e
 refine w3 ?_
 obtain ⟨sg,z⟩:=gx c.1 ((ar.2.1).toNat)
 have r:=z
 refine w6 ?_
 cases h:(decide (sg.2=1))
 have o:=aa h
 refine w6 ?_
 refine Qb ?_
 refine lK_ ((Yw p b (fun a A=>by cases (d).symm.trans A; first | exact (QeH (by omega)).symm | exact (Qbr (by omega) r).symm.trans ‹_›))) ?_
 exact wo []
 have o:=ab h
 refine w4 ?_
 refine Qd<|fqB C ?_
 exact Qqa b d ((Qbr (by omega) r).symm.trans ‹_›)
theorem Qd7 (a:Qfy)(b:ByteArray)(c:Zi)(r:0≤a.1∧a.1 < (b.size:Int))(t:0≤a.2.2.2∧a.2.2.2 < (b.size:Int))(u:a.2.1 < (c.1.length:Int)):FC Tryz.prog 555 [(true,[dI a.1,dI a.2.1,dB a.2.2.1,dI a.2.2.2]),(false,[.ptr 0 0]),(false,[.ptr 1 0])] [bx 0 9 [dS b],bx 1 28 [.dat Ql c.1, .dat Qo c.2.1, .dat Qw c.2.2]] 2 (Is (lB (ZK b a&&Yu c a.2.1)) [bx 0 9 [dS b],bx 1 28 [.dat Ql c.1, .dat Qo c.2.1, .dat Qw c.2.2]]):=by
 refine Qv Tryz.func555 rfl rfl Tryz.ntmps555 fun z d w e A p o=> ?_
 refine acG 0 0 fun _=> ?_
 refine acG 0 1 fun _=> ?_
 refine acG 0 3 fun _=> ?_
 refine w_ ?_
 refine xbx 2 ?_
 refine w5 ?_
 refine lc (dK (Xf a b r t) Jl) ?_
 refine w_ ?_
 cases v:(ZK b a)
 refine w8 ?_
 have h:(false:Bool)=(ZK b a&&Yu c a.2.1):=by
  (simp_all; done)
 exact fi_ [] d ⟨rfl,rfl,trivial⟩ (h0:=by rw[← h] <;> rfl)
 refine w3 ?_
 refine lgy rfl rfl (dK (Yx c a.2.1 u) WV) ?_
 refine w4 ?_
 have m:(Yu c a.2.1:Bool)=(ZK b a&&Yu c a.2.1):=by
  (simp_all; done)
 exact fi_ [] d ⟨rfl,rfl,trivial⟩ (h0:=(congrArg (fun z_=>lB z_) m))
theorem Jn (l:QcX)(b:ByteArray)(c:Zi)(B:∀a∈l,((0≤a.1∧a.1 < (b.size:Int))∧0≤a.2.2.2∧a.2.2.2 < (b.size:Int))∧a.2.1 < (c.1.length:Int)):FC Tryz.prog 340 [(false,[.dat Qw l]),(false,[.clo 555 [0,1]])] [bx 0 9 [dS b],bx 1 28 [.dat Ql c.1, .dat Qo c.2.1, .dat Qw c.2.2]] 2 (Is (lI (Zq (fun a:DAr=>ZK b a&&Yu c a.2.1) l)) [bx 0 9 [dS b],bx 1 28 [.dat Ql c.1, .dat Qo c.2.1, .dat Qw c.2.2]]):=by
 refine Qv Tryz.func340 rfl rfl Tryz.ntmps340 fun D r C t E z w=> ?_
 refine w6 ?_
 refine alL 6 fun _=> ?_
 refine w4 ?_
 refine lpK l.length (fun k=>NoneTo (fun a:DAr=>ZK b a&&Yu c a.2.1) l k) (fun k=>⟨[(0,lf (.dat Qw l)),(1,lf (.clo 555 [0,1])),(7,lI (l.length:Int)),(8,lI (k:Int))],[bx 0 9 [dS b],bx 1 28 [.dat Ql c.1, .dat Qo c.2.1, .dat Qw c.2.2]]⟩) (NoneTo.zero) ?_ fun k _ d=> ?_
 exact wo []
 refine w4 ?_
 cases o:(decide ((k:Int) < (l.length:Int)))
 have p:=aa o
 refine w7 ?_
 have u:((-1):Int)=(Zq (fun a:DAr=>ZK b a&&Yu c a.2.1) l):=by
  first | exact (d.no (by omega)).symm
 exact fi_ [] r ⟨rfl,rfl,trivial⟩ (h0:=by rw[← u] <;> rfl)
 have p:=ab o
 refine w12 ?_
 obtain ⟨m,h⟩:=gx l k
 have e:=B _ (ah h)
 refine w2 ?_
 refine lc (YH (args0:=[(true,[dI m.1,dI m.2.1,dB m.2.2.1,dI m.2.2.2])]) (caps:=[0,1]) 2 [(0,0),(1,1)] (Qd7 m b c e.1.1 e.1.2 e.2) Qnq rfl (Qa rfl) rfl rfl ⟨_,_,rfl,(Qk rfl),rfl⟩ ⟨rfl,rfl,trivial⟩ rfl ⟨trivial,trivial,trivial⟩ (nlr rfl)) ?_
 refine w_ ?_
 cases A:(ZK b m&&Yu c m.2.1)
 refine w6 ?_
 refine Qb ?_
 refine lK_ (d.step h ‹_›) ?_
 exact wo []
 refine w6 ?_
 have v:((k:Int):Int)=(Zq (fun a:DAr=>ZK b a&&Yu c a.2.1) l):=by
  exact (d.at h ‹_›).symm
 exact fi_ [] r ⟨rfl,rfl,trivial⟩ (h0:=by rw[v] <;> rfl)
theorem UD (l:QcX)(b:ByteArray)(c:Zi)(p:∀a∈l,((0≤a.1∧a.1 < (b.size:Int))∧0≤a.2.2.2∧a.2.2.2 < (b.size:Int))∧a.2.1 < (c.1.length:Int)):FC Tryz.prog 204 [(false,[.dat Qw l]),(false,[.clo 555 [0,1]])] [bx 0 9 [dS b],bx 1 28 [.dat Ql c.1, .dat Qo c.2.1, .dat Qw c.2.2]] 2 (Is (lB (l.any (fun a:DAr=>ZK b a&&Yu c a.2.1))) [bx 0 9 [dS b],bx 1 28 [.dat Ql c.1, .dat Qo c.2.1, .dat Qw c.2.2]]):=by
 refine Qv Tryz.func204 rfl rfl Tryz.ntmps204 fun t o r d u m h=> ?_
 refine w6 ?_
 refine lc (dP 2 [] (Jn l b c p) Ji) ?_
 refine w4 ?_
 have e:(decide (0≤(Zq (fun a:DAr=>ZK b a&&Yu c a.2.1) l)):Bool)=(l.any (fun a:DAr=>ZK b a&&Yu c a.2.1)):=by
  exact Vq _ _
 exact fi_ [] o ⟨rfl,rfl,trivial⟩ (h0:=by rw[e] <;> rfl)
theorem QbZ (c:Zi)(sig:Int)(F:SgOk c)(E:0≤sig∧sig≤7):FC Tryz.prog 580 [(true,[.dat Ql c.1, .dat Qo c.2.1, .dat Qw c.2.2]),(false,[dI sig])] [] 0 (YB 3 .int (JW c sig c.2.2.length)):=by
 have D:∀a∈c.2.2,InR c.2.1.length a:=fun a o=>XC (F.arcs a o)
 have X:=F.some_
 have V:=F.few
 have Y:=F.sigs.2.2
 have W:=HE (n:=c.2.1.length) (as_:=c.2.2)
 refine Qv Tryz.func580 rfl rfl Tryz.ntmps580 fun O_ U Z R X_ T S=> ?_
 refine acI 1 fun _=> ?_
 refine w_ ?_
 refine xbx 0 ?_
 refine w3 ?_
 refine lc (dBs 1 (e:= .int) Yk) ?_
 refine w_ ?_
 refine lc (dK (X7 c F.w).frozen Qa2) ?_
 refine w7 ?_
 refine alL 13 fun _=> ?_
 refine w4 ?_
 refine lp0 c.2.2.length (fun k=>⟨[(1,lI sig),(4,lf (.val (.slice none 0 0))),(5,lR 2),(6,lf (.dat Qz (YT c.2.1.length c.2.2))),(13,lf (.dat Qw c.2.2)),(14,lI (c.2.2.length:Int)),(15,lI (k:Int))],[(2,some (.arr 3 .int (JW c sig k)))]⟩) ?_ fun k _=> ?_
 exact wp [(2,1)] ⟨(Qe (rfl)),trivial⟩
 have O:=KW (f:=Ql1 c sig) (as_:=c.2.2) (k:=k)
 have P:(JW c sig k).length≤k:=O
 refine w4 ?_
 cases J:(decide ((k:Int) < (c.2.2.length:Int)))
 have K:=aa J
 refine w7 ?_
 refine Qd<|fo_ U ?_
 (congr 1; omega)
 have K:=ab J
 refine w6 ?_
 obtain ⟨ar,b⟩:=gx c.2.2 k
 have I:=D _ (ah b)
 obtain ⟨⟨p,r⟩,t,u⟩:=I
 have M:=(F.arcs _ (ah b)).2.2.1
 have Q:ar.2.1 < (c.1.length:Int):=Vf M
 refine w2 ?_
 refine lc (xal 3 QD QU) ?_
 refine w3 ?_
 cases z:(!decide (ar.2.1=sig))
 have L:(ar.2.1=sig):=QK z
 apply dW (i3 20 _ _ _ (io 23 (lB false) :: i9 24 _ _ _ _ _ _ _ _ _ (i9 33 _ _ _ _ _ _ _ _ _ []))) [0,0,3,0,0,0,32,32,0,0,992,2016,2016,992,992,0,65504,65504,0,0,0,0]
 refine z3 ?_
 refine zz (fun _ d=>ac (QH (QaJ (Qib z)) (QbD (d.v rfl) (d.v rfl) rfl)) rfl) ?_
 refine z16 ?_
 exact y2
 refine w6 ?_
 refine Qb ?_
 refine l0_ ?_
 exact wp [] ⟨(Qe (by first | exact Vg b (QiX ‹_›) | exact Vg b ((H4 (fun a o=>(D a o).1.1) ⟨⟨p,r⟩,t,u⟩ E.1 ‹_› G H).symm.trans ‹_›) | exact Ut b ((H4 (fun a o=>(D a o).1.1) ⟨⟨p,r⟩,t,u⟩ E.1 ‹_› G H).symm.trans ‹_›))),trivial⟩
 have L:¬(ar.2.1=sig):=QR z
 obtain ⟨x,N⟩:=gx (YT c.2.1.length c.2.2) ((ar.1).toNat)
 have G:=N
 have h:=Qad _ (ah N)
 obtain ⟨y,B⟩:=gx (YT c.2.1.length c.2.2) ((ar.2.2.2).toNat)
 have H:=B
 have m:=Qad _ (ah B)
 apply dW (i3 20 _ _ _ (io 23 (lB true) :: i9 24 _ _ _ _ _ _ _ _ _ (i2 33 _ _ (io 35 (lI ((x.toNat ^^^ (x.toNat &&& y.toNat):Nat):Int)) :: io 36 _ :: io 37 (lI (2*sig)) :: io 38 (lI (((x.toNat ^^^ (x.toNat &&& y.toNat):Nat):Int) / 2 ^ (2*sig).toNat)) :: io 39 (lI (((((x.toNat ^^^ (x.toNat &&& y.toNat):Nat):Int) / 2 ^ (2*sig).toNat).toNat &&& (3:Int).toNat:Nat):Int)) :: i2 40 _ _ [])))) [0,0,3,0,0,0,32,32,0,0,992,2016,2016,992,992,0,65504,65504,0,0,0,0]
 refine z3 ?_
 refine zz (fun _ d=>ac (QH (QaJ (Qib z)) (QbD (d.v rfl) (d.v rfl) rfl)) rfl) ?_
 refine z11 ?_
 refine zz (fun _ d=>day rfl (d.k rfl) (QjW (d.v rfl) (d.v rfl) rfl (by first | exact h | exact m | exact bB (nn2 h m) (bz (by decide)) | omega | exact bC _) (by first | exact h | exact m | exact bB (nn2 h m) (bz (by decide)) | omega | exact bC _)) rfl) ?_
 refine z_ ?_
 refine zz (fun _ d=>day rfl (d.k rfl) (Wu (Qy rfl) (d.v rfl) rfl (by omega)) rfl)<|zz (fun _ d=>day rfl (d.k rfl) (Ha (d.v rfl) (d.v rfl) rfl (by omega) (by first | exact h | exact m | exact bB (nn2 h m) (bz (by decide)) | omega | exact bC _)) rfl)<|zz (fun _ d=>day rfl (d.k rfl) (J5 (d.v rfl) (Qy rfl) rfl (by first | exact h | exact m | exact bB (nn2 h m) (bz (by decide)) | omega | exact bC _) (by omega)) rfl) ?_
 exact y2
 cases A:(!decide ((((((x.toNat ^^^ (x.toNat &&& y.toNat):Nat):Int) / 2 ^ (2*sig).toNat).toNat &&& (3:Int).toNat:Nat):Int)=0))
 have C:((((((x.toNat ^^^ (x.toNat &&& y.toNat):Nat):Int) / 2 ^ (2*sig).toNat).toNat &&& (3:Int).toNat:Nat):Int)=0):=QK A
 refine w6 ?_
 refine Qb ?_
 refine l0_ ?_
 exact wp [] ⟨(Qe (by first | exact Vg b (QiX ‹_›) | exact Vg b ((H4 (fun a o=>(D a o).1.1) ⟨⟨p,r⟩,t,u⟩ E.1 ‹_› G H).symm.trans ‹_›) | exact Ut b ((H4 (fun a o=>(D a o).1.1) ⟨⟨p,r⟩,t,u⟩ E.1 ‹_› G H).symm.trans ‹_›))),trivial⟩
 have C:¬((((((x.toNat ^^^ (x.toNat &&& y.toNat):Nat):Int) / 2 ^ (2*sig).toNat).toNat &&& (3:Int).toNat:Nat):Int)=0):=QR A
 refine w4 ?_
 refine lc (dBs 4 (e:= .int) Yk) ?_
 refine lc (dA 5 XP) ?_
 refine w_ ?_
 refine Qb ?_
 refine w4 ?_
 refine Qb ?_
 refine l0_ ?_
 exact wp [(2,5)] ⟨(Qe (by first | exact Vg b (QiX ‹_›) | exact Vg b ((H4 (fun a o=>(D a o).1.1) ⟨⟨p,r⟩,t,u⟩ E.1 ‹_› G H).symm.trans ‹_›) | exact Ut b ((H4 (fun a o=>(D a o).1.1) ⟨⟨p,r⟩,t,u⟩ E.1 ‹_› G H).symm.trans ‹_›))),trivial⟩
theorem Up (c:Zi)(b:SgOk c):FC Tryz.prog 559 [(true,[.dat Ql c.1, .dat Qo c.2.1, .dat Qw c.2.2])] [] 0 (QY (lI (Ul c))):=by
 have H:∀a∈c.2.2,InR c.2.1.length a:=fun a u=>XC (b.arcs a u)
 have C:=b.some_
 have z:=b.few
 have D:=b.sigs.2.2
 have m:=KY (ss:=c.1) (k:=c.1.length)
 refine Qv Tryz.func559 rfl rfl Tryz.ntmps559 fun F t E o G r p=> ?_
 refine w_ ?_
 refine xbx 0 ?_
 refine w8 ?_
 refine lc (dK (JP c (by omega)).frozen QfC) ?_
 refine alL 7 fun _=> ?_
 refine w4 ?_
 refine lp0 ((Q6 c.1 c.1.length).length) (fun k=>⟨[(1,lP 0 0),(2,lI 0),(3,lI (Qan c ((Q6 c.1 c.1.length).take k))),(7,lf (.dat Qz (Q6 c.1 c.1.length))),(8,lI ((Q6 c.1 c.1.length).length:Int)),(9,lI (k:Int))],[bx 0 28 [.dat Ql c.1, .dat Qo c.2.1, .dat Qw c.2.2]]⟩) ?_ fun k _=> ?_
 exact Wk.of [] rfl ⟨rfl,rfl,(show some (lI 0)=some (lI (Qan c ((Q6 c.1 c.1.length).take 0))) from congrArg (fun z_=>some (lI z_)) (rfl)),rfl,rfl,rfl,trivial⟩ ⟨rfl,trivial⟩ rfl rfl
 have w:=Qsd (k:=k) b m
 refine w4 ?_
 cases d:(decide ((k:Int) < ((Q6 c.1 c.1.length).length:Int)))
 have e:=aa d
 refine w7 ?_
 refine Qd<|fqI t ?_
 exact Qsc (by omega) rfl
 have e:=ab d
 refine w5 ?_
 obtain ⟨sg,h⟩:=gx (Q6 c.1 c.1.length) k
 obtain ⟨I,B,A,_⟩:=KZ.1 (ah h)
 have v:(JW c sg c.2.2.length).length≤c.2.2.length:=KW
 refine w2 ?_
 refine alI 12 fun _=> ?_
 refine w6 ?_
 refine lc (dO 1 (QbZ c sg b (by omega)) Qnx) ?_
 refine w3 ?_
 refine Qb ?_
 refine w4 ?_
 refine Qb ?_
 refine l0_ ?_
 exact Wk.of [] rfl ⟨rfl,rfl,(show some (lI ((Qan c ((Q6 c.1 c.1.length).take k))+((JW c sg c.2.2.length).length:Int)))=some (lI (Qan c ((Q6 c.1 c.1.length).take (k+1)))) from congrArg (fun z_=>some (lI z_)) (Qqd h)),rfl,rfl,rfl,trivial⟩ ⟨rfl,trivial⟩ rfl rfl
theorem Qdc (c:Zi)(sig:Int)[∀c,Decidable (SgOk c)]:FC Tryz.prog 552 [(true,[.dat Ql c.1, .dat Qo c.2.1, .dat Qw c.2.2]),(false,[dI sig])] [] 0 (QY (lB (decide (SgOk c∧(0≤sig∧sig≤(c.1.length:Int) - 1))))):=by
 refine Qv Tryz.func552 rfl rfl Tryz.ntmps552 fun r e p h t o m=> ?_
 refine acI 1 fun _=> ?_
 refine w_ ?_
 refine xbx 0 ?_
 refine w4 ?_
 refine lc (dK (YR c) V4) ?_
 refine w_ ?_
 cases b:(decide (SgOk c))
 have d:=aa b
 refine w9 ?_
 refine Qd<|fqB e ?_
 ·(simp_all; done)
 have d:=ab b
 refine w3 ?_
 refine alL 10 fun _=> ?_
 refine w2 ?_
 refine lgy rfl rfl (dK (XG sig 0 ((c.1.length:Int) - 1)) WU) ?_
 refine w3 ?_
 refine Qd<|fqB e ?_
 ·(simp_all; done)
theorem Qbm (c:Zi)(sig:Int)(up:Bool)(A:c.2.2.length≤4000):FC Tryz.prog 553 [(true,[.dat Ql c.1, .dat Qo c.2.1, .dat Qw c.2.2]),(false,[dI sig]),(false,[dB up])] [] 0 (YB 3 .int (exS sig up c.2.2)):=by
 refine Qv Tryz.func553 rfl rfl Tryz.ntmps553 fun w t v o z r p=> ?_
 refine acI 1 fun _=> ?_
 refine w_ ?_
 refine xbx 0 ?_
 refine w9 ?_
 refine alL 11 fun _=> ?_
 refine w4 ?_
 refine AC.wk (Wk.nilS 1 7 3 .int rfl (Fresh.of rfl) (nlr rfl)) ?_
 refine lp0 c.2.2.length (fun k=>⟨[(1,lI sig),(2,lB up),(6,lf (.val (.slice none 0 0))),(7,lR 2),(11,lf (.dat Qw c.2.2)),(12,lI (c.2.2.length:Int)),(13,lI (k:Int))],[(2,some (.arr 3 .int (exS sig up (c.2.2.take k))))]⟩) ?_ fun k _=> ?_
 exact wp [(2,1)] ⟨(Qe (rfl)),trivial⟩
 have u:=Qur (sig:=sig) (up:=up) (as_:=c.2.2) (k:=k)
 refine w4 ?_
 cases d:(decide ((k:Int) < (c.2.2.length:Int)))
 have e:=aa d
 refine w7 ?_
 refine Qd<|fo_ t ?_
 rw[QT (by omega)]
 have e:=ab d
 refine w5 ?_
 obtain ⟨ar,b⟩:=gx c.2.2 k
 refine w2 ?_
 refine lc (xal 3 QD QU) ?_
 refine w6 ?_
 refine lc (dK (Ke ar sig up) Qa4) ?_
 refine w_ ?_
 cases h:(decide (ar.2.1=sig∧ar.2.2.1=up))
 have m:=aa h
 refine w6 ?_
 refine Qb ?_
 refine l0_ ?_
 exact wp [] ⟨(Qe (by first | exact Qli b ‹_› | exact QpC b ‹_›)),trivial⟩
 have m:=ab h
 refine w5 ?_
 refine alI 23 fun _=> ?_
 refine lc (dP 4 [(0,2)] (Vb (exS sig up (c.2.2.take k)) ar.1 (by omega)) Jj) ?_
 refine w_ ?_
 refine Qb ?_
 refine w4 ?_
 refine Qb ?_
 refine l0_ ?_
 exact wp [(2,4)] ⟨(Qe (by first | exact Qli b ‹_› | exact QpC b ‹_›)),trivial⟩
theorem J3 (c:Zi)(sig:Int)[∀c,Decidable (SgOk c)]:FC Tryz.prog 501 [(true,[.dat Ql c.1, .dat Qo c.2.1, .dat Qw c.2.2]),(false,[dI sig])] [] 0 (Is (PV.tup [(false,[.ref 0]),(false,[dB (decide (SgOk c∧(0≤sig∧sig≤(c.1.length:Int) - 1)))])]) [(0,some (.arr 3 .int (if SgOk c∧(0≤sig∧sig≤(c.1.length:Int) - 1) then JW c sig c.2.2.length else [])))]):=by
 refine Qv Tryz.func501 rfl rfl Tryz.ntmps501 fun P F O G Q K J=> ?_
 refine acI 1 fun _=> ?_
 refine w_ ?_
 refine xbx 0 ?_
 refine w7 ?_
 refine lc (dK (Qdc c sig) Qnn) ?_
 refine w2 ?_
 cases z:(decide (SgOk c∧(0≤sig∧sig≤(c.1.length:Int) - 1)))
 have A:=aa z
 refine w5 ?_
 refine AC.wk (Wk.nilS 1 4 3 .int rfl (Fresh.of rfl) (nlr rfl))<|Qd ?_
 have H:(false:Bool)=(decide (SgOk c∧(0≤sig∧sig≤(c.1.length:Int) - 1))):=by
  (simp[*]; done)
 exact fi_ [(0,1)] F ⟨(Qe (by (rw[if_neg ‹_›]; done))),trivial⟩ (h0:=by rw[← H] <;> rfl)
 have A:=ab z
 refine w2 ?_
 refine XM ?_
 have d:SgOk c∧(0≤sig∧sig≤(c.1.length:Int) - 1):=by assumption
 have N:=d.1
 have D:=N.few
 have L:([false,true]:List Bool).length=2:=rfl
 refine w5 ?_
 refine lc (dBs 2 (e:= .bool) Qxy) ?_
 refine w4 ?_
 refine AC.wk (Wk.nilS 3 6 3 .int rfl (Fresh.of rfl) (nlr rfl)) ?_
 refine lp0 2 (fun k=>⟨[(1,lI sig),(2,lP 0 0),(4,lf (.val (.slice none 0 0))),(5,lB false),(6,lR 4),(16,lR 2),(17,lI (([false,true]).length:Int)),(18,lI (k:Int))],[bx 0 28 [.dat Ql c.1, .dat Qo c.2.1, .dat Qw c.2.2],(2,some (.arr 4 .bool ([false,true]))),(4,some (.arr 3 .int (QiY c sig k)))]⟩) ?_ fun k _=> ?_
 exact wp [(4,3)] ⟨rfl,rfl,(Qe (rfl)),trivial⟩
 refine w4 ?_
 cases B:(decide ((k:Int) < (([false,true]).length:Int)))
 have C:=aa B
 refine w9 ?_
 have I:(true:Bool)=(decide (SgOk c∧(0≤sig∧sig≤(c.1.length:Int) - 1))):=by
  (simp[*]; done)
 exact fi_ [(0,4)] F ⟨(Qe (by (rw[if_pos d,show k=2 by omega,Qr9]; done))),trivial⟩ (h0:=by rw[← I] <;> rfl)
 have C:=ab B
 refine w6 ?_
 obtain ⟨u,E⟩:=gx ([false,true]) k
 refine w7 ?_
 refine lc (dK (Qbm c sig u D).frozen Qno) ?_
 refine w5 ?_
 refine alL 27 fun _=> ?_
 refine w4 ?_
 refine lp0 c.2.2.length (fun i=>⟨[(1,lI sig),(2,lP 0 0),(4,lf (.val (.slice none 0 0))),(5,lB false),(6,lR 5),(8,lB u),(9,lf (.dat Qz (exS sig u c.2.2))),(16,lR 2),(17,lI (([false,true]).length:Int)),(18,lI (k:Int)),(19,lB true),(20,lf (.ept 2 1 k 0)),(21,lB u),(22,ag [.dat Ql c.1, .dat Qo c.2.1, .dat Qw c.2.2]),(23,lI sig),(24,lB u),(25,lf (.dat Qz (exS sig u c.2.2))),(26,lP 0 2),(27,lf (.dat Qw c.2.2)),(28,lI (c.2.2.length:Int)),(29,lI (i:Int))],[bx 0 28 [.dat Ql c.1, .dat Qo c.2.1, .dat Qw c.2.2],(2,some (.arr 4 .bool ([false,true]))),(5,some (.arr 3 .int (JX c sig u (QiY c sig k) i)))]⟩) ?_ fun i _=> ?_
 exact wp [(5,4)] ⟨rfl,rfl,(Qe (rfl)),trivial⟩
 have M:=Qr8 (c:=c) (sig:=sig) (up:=u) (k:=i) (l:=QiY c sig k) (QkA k) (Qsa k) (by omega)
 refine w4 ?_
 cases h:(decide ((i:Int) < (c.2.2.length:Int)))
 have r:=aa h
 refine w6 ?_
 refine Qb ?_
 refine l0_ ?_
 exact wp [(4,5)] ⟨rfl,rfl,(Qe ((by rw[show i=c.2.2.length by omega]; exact Qqc (by omega) E))),trivial⟩
 have r:=ab h
 refine w6 ?_
 obtain ⟨ar,b⟩:=gx c.2.2 i
 refine w2 ?_
 refine lc (xal 6 QD QU) ?_
 refine w6 ?_
 refine alI 35 fun _=> ?_
 refine w3 ?_
 cases m:(!decide (ar.2.1=sig))
 have t:(ar.2.1=sig):=QK m
 refine w16 ?_
 refine w3 ?_
 refine Qb ?_
 refine l0_ ?_
 exact wp [] ⟨rfl,rfl,(Qe (by first | exact QbR b (Qi2 ‹_› ‹_› ‹_›) | exact XX b (QiZ ‹_›) | exact XX b (Qi0 ‹_›) | exact XX b (Qi1 ‹_›))),trivial⟩
 have t:¬(ar.2.1=sig):=QR m
 refine w3 ?_
 refine lgy rfl rfl (dK (ZZ (exS sig u c.2.2) ar.1) YZ) ?_
 refine w2 ?_
 cases o:(decide (ar.1∈(exS sig u c.2.2)))
 have v:=aa o
 refine w13 ?_
 refine Qb ?_
 refine l0_ ?_
 exact wp [] ⟨rfl,rfl,(Qe (by first | exact QbR b (Qi2 ‹_› ‹_› ‹_›) | exact XX b (QiZ ‹_›) | exact XX b (Qi0 ‹_›) | exact XX b (Qi1 ‹_›))),trivial⟩
 have v:=ab o
 refine w3 ?_
 refine lgy rfl rfl (dK (ZZ (exS sig u c.2.2) ar.2.2.2) YZ) ?_
 refine w3 ?_
 cases p:(decide (ar.2.2.2∈(exS sig u c.2.2)))
 have w:=aa p
 refine w4 ?_
 refine lc (dP 7 [(0,5)] (Vb (JX c sig u (QiY c sig k) i) (i:Int) (by omega)) Jj) ?_
 refine w_ ?_
 refine Qb ?_
 refine w4 ?_
 refine Qb ?_
 refine l0_ ?_
 exact wp [(5,7)] ⟨rfl,rfl,(Qe (by first | exact QbR b (Qi2 ‹_› ‹_› ‹_›) | exact XX b (QiZ ‹_›) | exact XX b (Qi0 ‹_›) | exact XX b (Qi1 ‹_›))),trivial⟩
 have w:=ab p
 refine w6 ?_
 refine Qb ?_
 refine l0_ ?_
 exact wp [] ⟨rfl,rfl,(Qe (by first | exact QbR b (Qi2 ‹_› ‹_› ‹_›) | exact XX b (QiZ ‹_›) | exact XX b (Qi0 ‹_›) | exact XX b (Qi1 ‹_›))),trivial⟩
theorem We (c:Zi)[∀c,Decidable (SgOk c)]:FC Tryz.prog 407 [(true,[.dat Ql c.1, .dat Qo c.2.1, .dat Qw c.2.2])] [] 0 (QY (PV.tup [(false,[dI (if SgOk c then Ul c else 0)]),(false,[dB (decide (SgOk c))])])):=by
 refine Qv Tryz.func407 rfl rfl Tryz.ntmps407 fun L z K B M H G=> ?_
 refine w_ ?_
 refine xbx 0 ?_
 refine w6 ?_
 refine lc (dK (YR c) V4) ?_
 refine w2 ?_
 cases p:(decide (SgOk c))
 have r:=aa p
 refine w6 ?_
 have C:(0:Int)=(if SgOk c then Ul c else 0):=by
  (rw[if_neg ‹_›]; done)
 have D:(false:Bool)=(decide (SgOk c)):=by
  (simp[*]; done)
 exact fr_ z (e:=by rw[← C,← D] <;> rfl)
 have r:=ab p
 refine w2 ?_
 refine XM ?_
 have o:SgOk c:=by assumption
 refine w7 ?_
 refine alL 13 fun _=> ?_
 refine w4 ?_
 refine lp0 c.1.length (fun k=>⟨[(1,lP 0 0),(2,lI 0),(3,lB false),(4,lI (VC c k)),(13,lf (.dat Ql c.1)),(14,lI (c.1.length:Int)),(15,lI (k:Int))],[bx 0 28 [.dat Ql c.1, .dat Qo c.2.1, .dat Qw c.2.2]]⟩) ?_ fun k _=> ?_
 exact Wk.of [] rfl ⟨rfl,rfl,rfl,(show some (lI 0)=some (lI (VC c 0)) from congrArg (fun z_=>some (lI z_)) (rfl)),rfl,rfl,rfl,trivial⟩ ⟨rfl,trivial⟩ rfl rfl
 have I:=Qsb (k:=k) o (by omega)
 have v:(JW c (k:Int) c.2.2.length).length≤c.2.2.length:=KW
 have J:=o.few
 have w:k < c.1.length→(if SgOk c∧(0≤(k:Int)∧(k:Int)≤(c.1.length:Int) - 1) then JW c (k:Int) c.2.2.length else []).length≤c.2.2.length:=fun h=>by rw[if_pos ⟨o,by omega⟩]; exact v
 refine w4 ?_
 cases t:(decide ((k:Int) < (c.1.length:Int)))
 have u:=aa t
 refine w9 ?_
 have E:(VC c k:Int)=(if SgOk c then Ul c else 0):=by
  (rw[if_pos o,show k=c.1.length by omega]; rfl)
 have F:(true:Bool)=(decide (SgOk c)):=by
  (simp[*]; done)
 exact fr_ z (e:=by rw[E,← F] <;> rfl)
 have u:=ab t
 refine w6 ?_
 obtain ⟨sg,b⟩:=gx c.1 k
 have A:=w (by omega)
 refine w2 ?_
 refine lc (xal 1 QE VL) ?_
 refine w6 ?_
 refine lc (dG 2 (J3 c (k:Int)) Qng) ?_
 refine w9 ?_
 refine alI 27 fun _=> ?_
 refine w2 ?_
 cases d:(!decide (sg.2=1))
 have m:(sg.2=1):=QK d
 refine w6 ?_
 refine Qb ?_
 refine l0_ ?_
 exact Wk.of [] rfl ⟨rfl,rfl,rfl,(show some (lI (VC c k))=some (lI (VC c (k+1))) from congrArg (fun z_=>some (lI z_)) (by first | exact QoV b ‹_› | (rw[if_pos ⟨o,by omega⟩]; exact QkB b ‹_›))),rfl,rfl,rfl,trivial⟩ ⟨rfl,trivial⟩ rfl rfl
 have m:¬(sg.2=1):=QR d
 refine w7 ?_
 refine Qb ?_
 refine w4 ?_
 refine Qb ?_
 refine l0_ ?_
 exact Wk.of [] rfl ⟨rfl,rfl,rfl,(show some (lI ((VC c k)+((if SgOk c∧(0≤(k:Int)∧(k:Int)≤(c.1.length:Int) - 1) then JW c (k:Int) c.2.2.length else []).length:Int)))=some (lI (VC c (k+1))) from congrArg (fun z_=>some (lI z_)) (by first | exact QoV b ‹_› | (rw[if_pos ⟨o,by omega⟩]; exact QkB b ‹_›))),rfl,rfl,rfl,trivial⟩ ⟨rfl,trivial⟩ rfl rfl
end Go.Proofs.YtndabgcpnmeeoaaGreat
namespace Go.Proofs.YtndabgcpnmeeoaaGreat
open Go.RowKit
set_option maxRecDepth 100000
set_option maxHeartbeats 4000000
section
variable {c:DSg}{as_:List DAr}{a:DAr}{i j k n:Nat}{s q:Int}{z:QM}
theorem Qus (e:c.2.2[k]? =some a)(b:a.1=q)(d:a.2.1=s):true=ZT c q s:=(bY.2 ⟨a,ah e,aL ⟨b,d⟩⟩).symm
theorem QvQ (e:∀j,j < k→∀a,c.2.2[j]? =some a→¬(a.1=q∧a.2.1=s))(f:c.2.2.length≤k):false=ZT c q s:=(cB.2 fun a d=>by
 obtain ⟨j,b⟩:=aN.1 d
 have:=(ai.1 b).1
 simpa using e j (by omega) a b).symm
end
theorem YC (c:Zi)(k:Int)(sig:Int):FC Tryz.prog 189 [(true,[.dat Ql c.1, .dat Qo c.2.1, .dat Qw c.2.2]),(false,[dI k]),(false,[dI sig])] [] 0 (QY (lB (ZT c k sig))):=by
 refine Qv Tryz.func189 rfl rfl Tryz.ntmps189 fun y p x t A v u=> ?_
 refine acI 1 fun _=> ?_
 refine acI 2 fun _=> ?_
 refine w_ ?_
 refine xbx 0 ?_
 refine w6 ?_
 refine alL 10 fun _=> ?_
 refine w4 ?_
 refine lpK c.2.2.length (fun i=>∀j,j < i→∀a,c.2.2[j]? =some a→¬(a.1=k∧a.2.1=sig)) (fun i=>⟨[(1,lI k),(2,lI sig),(10,lf (.dat Qw c.2.2)),(11,lI (c.2.2.length:Int)),(12,lI (i:Int))],[]⟩) ((fun j w=>absurd w (bg j))) ?_ fun i _ e=> ?_
 exact wo []
 refine w4 ?_
 cases h:(decide ((i:Int) < (c.2.2.length:Int)))
 have l:=aa h
 refine w6 ?_
 refine Qd<|fqB p ?_
 first | exact QvQ e (by omega)
 have l:=ab h
 refine w5 ?_
 obtain ⟨r,f⟩:=gx c.2.2 i
 refine w2 ?_
 refine lc (xal 1 QD QU) ?_
 refine w5 ?_
 refine alI 17 fun _=> ?_
 refine w3 ?_
 cases m:(decide (r.1=k))
 have o:=aa m
 refine w12 ?_
 refine Qb ?_
 refine lK_ ((Yw e f (by first | (exact fun g=>absurd g.1 ‹_›) | (exact fun g=>absurd g.2 ‹_›)))) ?_
 exact wo []
 have o:=ab m
 refine w6 ?_
 cases b:(decide (r.2.1=sig))
 have d:=aa b
 refine w6 ?_
 refine Qb ?_
 refine lK_ ((Yw e f (by first | (exact fun g=>absurd g.1 ‹_›) | (exact fun g=>absurd g.2 ‹_›)))) ?_
 exact wo []
 have d:=ab b
 refine w4 ?_
 refine Qd<|fqB p ?_
 exact Qus f ‹_› ‹_›
end Go.Proofs.YtndabgcpnmeeoaaGreat
