/- Walks over abstract states: arcs that disable a signal, how many there are; arcs that delay an input. -/
import Derived.Test.YtjaadeknhofhpaaGreatUe
set_option linter.unusedSimpArgs false
set_option linter.unusedVariables false
set_option linter.unusedSectionVars false
namespace Go.Proofs.YtjaadeknhofhpaaGreat
open Go.RowKit
set_option maxRecDepth 100000
set_option maxHeartbeats 4000000
def Jd (c:DSg)(s:ByteArray):Bool:=c.2.2.any fun a=>Zs s a&&XE c a.2.1
def Wq (f:DAr→Bool)(as_:List DAr)(k:Nat):List Int:=((List.range k).filter fun i=>match as_[i]? with | some a=>f a | none=>false).map fun i=>((i:Nat):Int)
def exL (c:DSg)(q sig:Int)(up:Bool):Bool:=c.2.2.any fun a=>decide (a.1=q∧a.2.1=sig∧a.2.2.1=up)
def HR (c:DSg)(sig:Int)(up:Bool)(a:DAr):Bool:= !decide (a.2.1=sig)&&(exL c a.1 sig up&& !exL c a.2.2.2 sig up)
def Qkn (c:DSg)(sig:Int)(a:DAr):Bool:=HR c sig false a||HR c sig true a
abbrev Kk (c:DSg)(sig:Int)(k:Nat):List Int:=Wq (Qkn c sig) c.2.2 k
def Vq (c:DSg)(k:Nat):Int:=((ZI c.1 k).map fun s=>((Kk c s c.2.2.length).length:Int)).sum
def Vx (c:DSg):Int:=Vq c c.1.length
def QhC (sig:Int)(up:Bool)(l:List Int)(a:DAr):List Int:=if a.2.1=sig∧a.2.2.1=up then YF ltI a.1 l else l
def exS (sig:Int)(up:Bool)(as_:List DAr):List Int:=as_.foldl (QhC sig up) []
def KU (c:DSg)(sig:Int)(up:Bool)(l:List Int)(k:Nat):List Int:=(Wq (HR c sig up) c.2.2 k).foldl (fun l i=>YF ltI i l) l
def Qhb (c:DSg)(sig:Int):Nat→List Int
  | 0=>[]
  | 1=>KU c sig false [] c.2.2.length
  | _=>KU c sig true (KU c sig false [] c.2.2.length) c.2.2.length
section
variable {c:DSg}{as_:List DAr}{a:DAr}{i j k n:Nat}{s:ByteArray}{sig q x y:Int}{up:Bool}{l:List Int}{f g:DAr→Bool}
theorem V2 (hx:as_[k]? =some a)(h:f a=true):Wq f as_ k++[(k:Int)]=Wq f as_ (k+1):=by
  unfold Wq
  rw[bK,b5,bh]; simp[hx,h]
theorem W3 (hx:as_[k]? =some a)(h:f a=false):Wq f as_ k=Wq f as_ (k+1):=by
  unfold Wq
  rw[bK,b5,bh]; simp[hx,h]
theorem UU:(Wq f as_ k).length≤k:=by unfold Wq; rw[aF]; exact b4 (bG ..) (by simp)
theorem UD:x∈Wq f as_ k↔∃(j:Nat) (a:DAr),x=(j:Int)∧j < k∧as_[j]? =some a∧f a=true:=by
  unfold Wq
  simp only[bQ,bY,cj]
  constructor
  · rintro ⟨j, ⟨h1, h2⟩, rfl⟩
    cases ha:as_[j]? with
    | none=>rw[ha] at h2; cases h2
    | some a=>rw[ha] at h2; exact ⟨j,a,rfl,h1,ha,h2⟩
  · rintro ⟨j,a,rfl,h1,h2,h3⟩; exact ⟨j,⟨h1,by rw[h2]; exact h3⟩,rfl⟩
theorem QqZ:(Wq f as_ k).Pairwise fun x y=>ltI x y=true:=by
  induction k with
  | zero=>exact bT
  | succ k ih=>
    cases ha:as_[k]? with
    | none=>
      have:Wq f as_ (k+1)=Wq f as_ k:=by unfold Wq; rw[bK,b5,bh]; simp[ha]
      rw[this]; exact ih
    | some a=>
      cases hf:f a with
      | false=>rw[← W3 ha hf]; exact ih
      | true=>
        rw[← V2 ha hf,List.pairwise_append]
        refine ⟨ih,List.pairwise_singleton ..,fun x hx y hy=> ?_⟩
        rw[aK] at hy
        obtain ⟨j,_,rfl,h,_⟩:=UD.1 hx
        simp[ltI,hy]; omega
theorem Qh2 {v:Int}(h:(Wq f as_ k)[i]? =some v):∃(j:Nat) (a:DAr),v=(j:Int)∧j < k∧as_[j]? =some a∧f a=true:=UD.1 (a8 h)
theorem Qqv (hn:∀j,j < i→∀v,(Wq (Zs s) c.2.2 c.2.2.length)[j]? =some v→∀a,c.2.2[v.toNat]? =some a→XE c a.2.1=false)(h:(Wq (Zs s) c.2.2 c.2.2.length).length≤i):true= !Jd c s:=by
  cases hd:Jd c s with
  | false=>rfl
  | true=>
    unfold Jd at hd
    obtain ⟨a,ha,h1⟩:=bS.1 hd
    rw[aG] at h1
    obtain ⟨j,hj⟩:=aJ.1 ha
    have hl:=(ab.1 hj).1
    obtain ⟨m,hm⟩:=aJ.1 (UD (k:=c.2.2.length).2 ⟨j,a,rfl,hl,hj,h1.1⟩)
    have hml:=(ab.1 hm).1
    have:=hn m (by omega) _ hm a (by simpa using hj)
    rw[h1.2] at this; cases this
theorem Qou {v:Int}(hv:(Wq (Zs s) c.2.2 c.2.2.length)[i]? =some v)(ha:c.2.2[v.toNat]? =some a)(h:XE c a.2.1=true):false= !Jd c s:=by
  obtain ⟨j,b,rfl,_,hb,hd⟩:=Qh2 hv
  have e : b = a := by have : c.2.2[j]? = some a := by simpa using ha
                       rw[hb] at this; exact cu this
  subst e
  have:Jd c s=true:=bS.2 ⟨b,a8 hb,by rw[hd,h]; rfl⟩
  rw[this]; rfl
theorem Qvx (m n t:Nat):(((m ^^^ (m &&& n)) / 2 ^ t) &&& 3=0)↔(∀e,e < 2→(m.testBit (t+e)=true→n.testBit (t+e)=true)):=by
  rw[Qt8]
  simp only[Nat.testBit_xor,Nat.testBit_and]
  constructor
  · rintro ⟨h0, h1⟩ e he hm
    match e,he with
    | 0,_=>simp only[cA] at hm ⊢; rw[hm] at h0; cases hn:n.testBit t <;> simp_all
    | 1,_=>rw[hm] at h1; cases hn:n.testBit (t+1) <;> simp_all
  · intro h
    have h0:=h 0 (by omega)
    have h1:=h 1 (by omega)
    simp only[cA] at h0
    constructor
    · cases hm : m.testBit t with
      | false=>rfl
      | true=>rw[h0 hm]; rfl
    · cases hm : m.testBit (t + 1) with
      | false=>rfl
      | true=>rw[h1 hm]; rfl
theorem QmD (hr:∀a∈c.2.2,0≤a.1)(hk:k < c.2.1.length)(hs:0≤sig)(up:Bool):(mAt (XL c.2.1.length c.2.2) (k:Int)).toNat.testBit ((2*sig).toNat+(if up=true then 1 else 0))=exL c k sig up:=by
  rw[bC]
  unfold mAt XL
  rw[cM,QbJ c.2.2 _ k _ hr (by simpa using hk)]
  unfold exL
  rw[bS]
  simp only[bI,hk,if_true,ae,Int.toNat_zero,Nat.zero_testBit,aN]
  constructor
  · rintro (h | ⟨a, ha, h0, h1, h2⟩)
    · cases h
    · refine ⟨a, ha, h1, ?_⟩
      cases hu:a.2.2.1 <;> cases up <;> simp[hu] at h2 ⊢ <;> omega
  · rintro ⟨a, ha, h1, h2, h3⟩
    exact .inr ⟨a,ha,by omega,h1,by rw[h2,h3]⟩
theorem He (hr:∀a∈c.2.2,0≤a.1)(ha:InR c.2.1.length a)(hs:0≤sig)(h:¬a.2.1=sig)(hx:(XL c.2.1.length c.2.2)[a.1.toNat]? =some x)(hy:(XL c.2.1.length c.2.2)[a.2.2.2.toNat]? =some y):
    (!decide ((((((((x.toNat ^^^ (x.toNat &&& y.toNat):Nat):Int) / 2 ^ (2*sig).toNat)).toNat &&& (3:Int).toNat:Nat)):Int)=0))=Qkn c sig a:=by
  have e:((((x.toNat ^^^ (x.toNat &&& y.toNat):Nat):Int) / 2 ^ (2*sig).toNat)).toNat=(x.toNat ^^^ (x.toNat &&& y.toNat)) / 2 ^ (2*sig).toNat:=by
    have e1:(((x.toNat ^^^ (x.toNat &&& y.toNat):Nat):Int) / 2 ^ (2*sig).toNat)=(((x.toNat ^^^ (x.toNat &&& y.toNat)) / 2 ^ (2*sig).toNat:Nat):Int):=by
      rw[Int.natCast_ediv,Int.natCast_pow]; rfl
    rw[e1]; rfl
  rw[e]
  have e3:((((x.toNat ^^^ (x.toNat &&& y.toNat)) / 2 ^ (2*sig).toNat) &&& (3:Int).toNat:Nat):Int)=0↔((x.toNat ^^^ (x.toNat &&& y.toNat)) / 2 ^ (2*sig).toNat) &&& 3=0:=by
    show ((((x.toNat ^^^ (x.toNat &&& y.toNat)) / 2 ^ (2*sig).toNat) &&& 3:Nat):Int)=0↔_
    omega
  have hx':=JW hx
  have hy':=JW hy
  have b1:∀up:Bool,x.toNat.testBit ((2*sig).toNat+(if up=true then 1 else 0))=exL c a.1 sig up:=fun up=>by
    have:=QmD (k:=a.1.toNat) hr (by have:=ha.1; omega) hs up
    rw[show ((a.1.toNat:Nat):Int)=a.1 by have:=ha.1; omega,hx'] at this
    exact this
  have b2:∀up:Bool,y.toNat.testBit ((2*sig).toNat+(if up=true then 1 else 0))=exL c a.2.2.2 sig up:=fun up=>by
    have:=QmD (k:=a.2.2.2.toNat) hr (by have:=ha.2; omega) hs up
    rw[show ((a.2.2.2.toNat:Nat):Int)=a.2.2.2 by have:=ha.2; omega,hy'] at this
    exact this
  have f1:=b1 false
  have f2:=b2 false
  have t1:=b1 true
  have t2:=b2 true
  simp only[bF,if_false,if_true,cA] at f1 f2 t1 t2
  have k0:(∀e,e < 2→x.toNat.testBit ((2*sig).toNat+e)=true→y.toNat.testBit ((2*sig).toNat+e)=true)↔((x.toNat.testBit (2*sig).toNat=true→y.toNat.testBit (2*sig).toNat=true)∧(x.toNat.testBit ((2*sig).toNat+1)=true→y.toNat.testBit ((2*sig).toNat+1)=true)):=
    ⟨fun hn=>⟨by simpa using hn 0 (by omega),hn 1 (by omega)⟩,fun ⟨h0,h1⟩ e he=>match e,he with
      | 0,_=>by simpa using h0
      | 1,_=>h1⟩
  rw[bC,bB,bp,e3,Qvx,k0]
  unfold Qkn HR
  rw[← f1,← f2,← t1,← t2,az h]
  generalize x.toNat.testBit (2*sig).toNat=X0
  generalize y.toNat.testBit (2*sig).toNat=Y0
  generalize x.toNat.testBit ((2*sig).toNat+1)=X1
  generalize y.toNat.testBit ((2*sig).toNat+1)=Y1
  cases X0 <;> cases Y0 <;> cases X1 <;> cases Y1 <;> simp
theorem QgT (h:a.2.1=sig):Qkn c sig a=false:=by unfold Qkn HR; simp[h]
theorem Qi2 (hx:as_[k]? =some a)(h:a.2.1=sig∧a.2.2.1=up):YF ltI a.1 (exS sig up (as_.take k))=exS sig up (as_.take (k+1)):=by
  unfold exS
  rw[QO hx,b9]; simp[QhC,h]
theorem Qmg (hx:as_[k]? =some a)(h:¬(a.2.1=sig∧a.2.2.1=up)):exS sig up (as_.take k)=exS sig up (as_.take (k+1)):=by
  unfold exS
  rw[QO hx,b9]; simp[QhC,h]
theorem Qf8:∀{as_:List DAr} {l:List Int},x∈as_.foldl (QhC sig up) l↔x∈l∨∃a∈as_,a.1=x∧a.2.1=sig∧a.2.2.1=up
  | [],l=>by simp
  | a :: as_,l=>by
    rw[aS,Qf8]
    unfold QhC
    split
    · rename_i h
      rw[Ww]
      constructor
      · rintro ((rfl | h1) | ⟨b, hb, h1⟩)
        · exact .inr ⟨a,aA ..,rfl,h⟩
        · exact .inl h1
        · exact .inr ⟨b,ax _ hb,h1⟩
      · rintro (h1 | ⟨b, hb, h1⟩)
        · exact .inl (.inr h1)
        · rcases aH.1 hb with rfl | hb
          · exact .inl (.inl h1.1.symm)
          · exact .inr ⟨b,hb,h1⟩
    · rename_i h
      constructor
      · rintro (h1 | ⟨b, hb, h1⟩)
        · exact .inl h1
        · exact .inr ⟨b,ax _ hb,h1⟩
      · rintro (h1 | ⟨b, hb, h1⟩)
        · exact .inl h1
        · rcases aH.1 hb with rfl | hb
          · exact absurd h1.2 h
          · exact .inr ⟨b,hb,h1⟩
theorem Qhn:(x∈exS sig up c.2.2)↔exL c x sig up=true:=by
  unfold exS exL
  rw[Qf8,bS]
  simp
theorem Qfz:∀{as_:List DAr} {l:List Int},(as_.foldl (QhC sig up) l).length≤l.length+as_.length
  | [],l=>aO _
  | a :: as_,l=>by
    have h1:=Qfz (as_:=as_) (l:=QhC sig up l a)
    have h2:(QhC sig up l a).length≤l.length+1:=by
      unfold QhC
      split
      · rcases Kf a.1 l with h | h
        · rw[h]; omega
        · omega
      · omega
    rw[aS,ao]; omega
theorem QrU:(exS sig up (as_.take k)).length≤as_.length:=by
  have:=Qfz (sig:=sig) (up:=up) (as_:=as_.take k) (l:=[])
  have h2:(as_.take k).length≤as_.length:=by simp only[ak]; omega
  unfold exS; simp only[aD] at this; omega
theorem Qbj (hx:c.2.2[k]? =some a)(h:HR c sig up a=true):YF ltI (k:Int) (KU c sig up l k)=KU c sig up l (k+1):=by
  unfold KU
  rw[← V2 hx h,b9]; rfl
theorem XY (hx:c.2.2[k]? =some a)(h:HR c sig up a=false):KU c sig up l k=KU c sig up l (k+1):=by
  unfold KU
  rw[← W3 hx h]
theorem UY:∀{m l:List Int},x∈m.foldl (fun l i=>YF ltI i l) l↔x∈l∨x∈m
  | [],l=>by simp
  | y :: m,l=>by
    rw[aS,UY,Ww,aH]
    constructor
    · rintro ((h | h) | h)
      · exact .inr (.inl h)
      · exact .inl h
      · exact .inr (.inr h)
    · rintro (h | h | h)
      · exact .inl (.inr h)
      · exact .inl (.inl h)
      · exact .inr h
theorem UP:∀{m l:List Int},Qoc l→Qoc (m.foldl (fun l i=>YF ltI i l) l)
  | [],_,h=>h
  | y :: m,l,h=>UP (m:=m) (QeY Vm h)
theorem Qii (k:Nat):Qoc (Qhb c sig k):=by
  match k with
  | 0=>exact bT
  | 1=>exact UP bT
  | k+2=>exact UP (UP bT)
theorem QpY (h1:Qoc l)(h2:∀x∈l,0≤x∧x < (c.2.2.length:Int))(hk:k≤c.2.2.length):(KU c sig up l k).length≤c.2.2.length:=by
  have:=KB (l:=KU c sig up l k) (lo:=0) (hi:=c.2.2.length) (UP h1) (fun x hx=>by
    rcases UY.1 hx with hx | hx
    · exact h2 x hx
    · obtain ⟨j,_,rfl,hj,_⟩:=UD.1 hx; omega) (by omega)
  omega
theorem Qpb (k:Nat):∀x∈Qhb c sig k,0≤x∧x < (c.2.2.length:Int):=by
  have h:∀{up:Bool} {l:List Int},(∀x∈l,0≤x∧x < (c.2.2.length:Int))→∀x∈KU c sig up l c.2.2.length,0≤x∧x < (c.2.2.length:Int):=fun h2 x hx=>by
    rcases UY.1 hx with hx | hx
    · exact h2 x hx
    · obtain ⟨j,_,rfl,hj,_⟩:=UD.1 hx; omega
  match k with
  | 0=>intro x hx; cases hx
  | 1=>exact h fun x hx=>by cases hx
  | k+2=>exact h (h fun x hx=>by cases hx)
theorem Qpo:Qhb c sig 2=Kk c sig c.2.2.length:=by
  refine TO.ext Vm (Qii 2) QqZ fun x=> ?_
  show x∈KU c sig true (KU c sig false [] c.2.2.length) c.2.2.length↔_
  unfold KU
  rw[UY,UY]
  simp only[cp,false_or,UD]
  unfold Qkn
  constructor
  · rintro (⟨j, a, h1, h2, h3, h4⟩ | ⟨j, a, h1, h2, h3, h4⟩)
    · exact ⟨j,a,h1,h2,h3,by rw[h4]; rfl⟩
    · exact ⟨j,a,h1,h2,h3,by rw[h4,Bool.or_true]⟩
  · rintro ⟨j, a, h1, h2, h3, h4⟩
    rw[bA] at h4
    rcases h4 with h4 | h4
    · exact .inl ⟨j,a,h1,h2,h3,h4⟩
    · exact .inr ⟨j,a,h1,h2,h3,h4⟩
theorem QnY (hi:i < 2){u:Bool}(hu:[false,true][i]? =some u):KU c sig u (Qhb c sig i) c.2.2.length=Qhb c sig (i+1):=by
  match i,hi with
  | 0,_=>cases hu; rfl
  | 1,_=>cases hu; rfl
theorem Qhs (h:a.2.1=sig):HR c sig up a=false:=by unfold HR; simp[h]
theorem QgC (h:¬a.1∈exS sig up c.2.2):HR c sig up a=false:=by
  rw[Qhn] at h
  unfold HR
  rw[cg.2 h]; simp
theorem Qg6 (h:a.2.2.2∈exS sig up c.2.2):HR c sig up a=false:=by
  rw[Qhn] at h
  unfold HR
  rw[h]; simp
theorem Qhr (h:¬a.2.1=sig)(h1:a.1∈exS sig up c.2.2)(h2:¬a.2.2.2∈exS sig up c.2.2):HR c sig up a=true:=by
  rw[Qhn] at h1 h2
  unfold HR
  rw[h1,cg.2 h2,az h]; rfl
theorem Qr1:0≤Vq c k∧Vq c k≤(c.2.2.length:Int)*(k:Int):=by
  induction k with
  | zero=>exact ⟨by simp[Vq,ZI],by simp[Vq,ZI]⟩
  | succ k ih=>
    have e:Vq c (k+1)=Vq c k∨Vq c (k+1)=Vq c k+((Kk c k c.2.2.length).length:Int):=by
      unfold Vq ZI
      rw[bK,b5]
      by_cases hp:((c.1[k]?).getD (ByteArray.empty,0)).2=1
      · left; simp[hp]
      · right; simp[hp]
    have hl:(Kk c (k:Int) c.2.2.length).length≤c.2.2.length:=UU
    have:(c.2.2.length:Int)*((k+1:Nat):Int)=(c.2.2.length:Int)*(k:Int)+(c.2.2.length:Int):=by rw[Int.natCast_add]; simp[Int.mul_add]
    rw[this]
    rcases e with e | e <;> rw[e] <;> constructor <;> omega
theorem Qph (hs:SgOk c)(hk:k≤c.1.length):0≤Vq c k∧Vq c k≤32000:=by
  have h1:=Qr1 (c:=c) (k:=k)
  have h2:=hs.few
  have h3:=hs.sigs.2.2
  have h4:(c.2.2.length:Int)*(k:Int)≤4000*8:=Int.mul_le_mul (by omega) (by omega) (by omega) (by decide)
  exact ⟨h1.1,by omega⟩
theorem Qim {z:QJ}(hx:c.1[k]? =some z)(h:¬z.2=1):Vq c k+((Kk c (k:Int) c.2.2.length).length:Int)=Vq c (k+1):=by
  unfold Vq
  rw[← Ka hx h,bh]; simp
theorem QmX {z:QJ}(hx:c.1[k]? =some z)(h:z.2=1):Vq c k=Vq c (k+1):=by
  unfold Vq
  rw[← Qbm hx h]
def Ju (c:DSg)(l:List Int):Int:=(l.map fun s=>((Kk c s c.2.2.length).length:Int)).sum
theorem Qof {o:List Int}(hx:o[k]? =some sig):Ju c (o.take k)+((Kk c sig c.2.2.length).length:Int)=Ju c (o.take (k+1)):=by
  unfold Ju
  rw[QO hx,bh]; simp
theorem QlP:∀{l:List Int},0≤Ju c l∧Ju c l≤(c.2.2.length:Int)*(l.length:Int)
  | []=>by simp[Ju]
  | x :: l=>by
    have h1:=QlP (l:=l)
    have hl:(Kk c x c.2.2.length).length≤c.2.2.length:=UU
    have e:Ju c (x :: l)=((Kk c x c.2.2.length).length:Int)+Ju c l:=by simp[Ju]
    have:(c.2.2.length:Int)*(((x :: l).length:Nat):Int)=(c.2.2.length:Int)*(l.length:Int)+(c.2.2.length:Int):=by rw[ao,Int.natCast_add]; simp[Int.mul_add]
    rw[this,e]
    constructor <;> omega
theorem Qqj (hs:SgOk c){o:List Int}(ho:o.length≤c.1.length):0≤Ju c (o.take k)∧Ju c (o.take k)≤32000:=by
  have h1:=QlP (c:=c) (l:=o.take k)
  have h2:=hs.few
  have h3:=hs.sigs.2.2
  have h5:(o.take k).length≤o.length:=by simp only[ak]; omega
  have h4:(c.2.2.length:Int)*((o.take k).length:Int)≤4000*8:=Int.mul_le_mul (by omega) (by omega) (by omega) (by decide)
  exact ⟨h1.1,by omega⟩
theorem Qql {o:List Int}(hk:o.length≤k)(h:o=ZI c.1 c.1.length):Ju c (o.take k)=Vx c:=by rw[QN hk,h]; rfl
theorem nn2 {x y:Int}(h1:0≤x)(h2:0≤y):0≤(((x.toNat ^^^ (x.toNat &&& y.toNat):Nat)):Int):=bN _
end
theorem H9 (c:(List (ByteArray×Int))×List ByteArray×(List (Int×Int×Bool×Int)))(s:ByteArray)(hs:SignsOk c s):FC Tryz.prog 141 [(true,[.dat Qo c.1, .dat Qr c.2.1, .dat QD c.2.2]),(false,[dS s])] [] 0 (Xe 3 .int (Wq (Zs s) c.2.2 c.2.2.length)):=by
 have hfw:=hs.2.2.few
 refine Qy Tryz.func141 rfl rfl Tryz.ntmps141 fun O_ hO w0_ N0_ X_ h0_ f0_=> ?_
 refine w_ ?_
 refine xbx 0 ?_
 iterate 9 refine w_ ?_
 refine AL.fact (Qp (x:= .tmp 9) (Qa rfl)) fun hl1=> ?_
 iterate 4 refine w_ ?_
 refine AC.wk (Wk.nilS 1 5 3 .int rfl (Fresh.of rfl) (nlr rfl)) ?_
 refine Qm (fun m_ s_=>∃(k:Nat),k≤c.2.2.length∧m_=c.2.2.length - k∧s_=⟨[(1,lf (dS s)),(4,lf (.val (.slice none 0 0))),(5,lR 2),(9,lf (.dat QD c.2.2)),(10,lI (c.2.2.length:Int)),(11,lI (k:Int))],[(2,some (.arr 3 .int (Wq (Zs s) c.2.2 k)))]⟩) ⟨0,ap _,rfl,rfl⟩ ?_ ?_
 exact wp [(2,1)] ⟨(Qh (rfl)),trivial⟩
 rintro m_ s_ ⟨k,hk2,hm3,rfl⟩
 have hnl:=UU (f:=Zs s) (as_:=c.2.2) (k:=k)
 iterate 4 refine w_ ?_
 cases hb4:(decide ((k:Int) < (c.2.2.length:Int)))
 have hb4':=a6 hb4
 iterate 8 refine w_ ?_
 subst hO
 refine Zc (e:= .int) (xs:=(Wq (Zs s) c.2.2 k)) (Res.one rfl (Qb rfl)) rfl ?_
 (congr 1; omega)
 have hb4':=a7 hb4
 iterate 6 refine w_ ?_
 obtain ⟨ar,hx6⟩:=gx c.2.2 k
 have hat:=hs.at_ (a8 hx6)
 iterate 2 refine w_ ?_
 refine lc (xal 3 QA Za) ?_
 iterate 6 refine w_ ?_
 refine lc (dK (WM s ar (by omega) (by omega)) HL) ?_
 refine w_ ?_
 cases hb7:(Zs s ar)
 iterate 6 refine w_ ?_
 refine Qc<|QE ⟨k+1,by omega,rfl,rfl⟩ (by omega) ?_
 exact wp [] ⟨(Qh (by first | exact V2 hx6 ‹_› | exact W3 hx6 ‹_›)),trivial⟩
 iterate 4 refine w_ ?_
 refine lc (dBs 4 (e:= .int) YD) ?_
 refine lc (dA 5 XR) ?_
 refine w_ ?_
 refine Qc ?_
 iterate 4 refine w_ ?_
 refine Qc<|QE ⟨k+1,by omega,rfl,rfl⟩ (by omega) ?_
 exact wp [(2,5)] ⟨(Qh (by first | exact V2 hx6 ‹_› | exact W3 hx6 ‹_›)),trivial⟩
theorem QcF (c:(List (ByteArray×Int))×List ByteArray×(List (Int×Int×Bool×Int)))(s:ByteArray)(hs:SignsOk c s):FC Tryz.prog 145 [(true,[.dat Qo c.1, .dat Qr c.2.1, .dat QD c.2.2]),(false,[dS s])] [] 0 (Zk (lB (!Jd c s))):=by
 have hfw:=hs.2.2.few
 refine Qy Tryz.func145 rfl rfl Tryz.ntmps145 fun O_ hO w0_ N0_ X_ h0_ f0_=> ?_
 refine w_ ?_
 refine xbx 0 ?_
 iterate 6 refine w_ ?_
 refine lc (dK (H9 c s hs).frozen QjG) ?_
 refine AL.fact (Qp (x:= .tmp 10) (Qa rfl)) fun hl1=> ?_
 iterate 4 refine w_ ?_
 refine Qm (fun m_ s_=>∃(k:Nat),k≤(Wq (Zs s) c.2.2 c.2.2.length).length∧m_=(Wq (Zs s) c.2.2 c.2.2.length).length - k∧(∀j,j < k→∀v,(Wq (Zs s) c.2.2 c.2.2.length)[j]? =some v→∀a,c.2.2[v.toNat]? =some a→XE c a.2.1=false)∧s_=⟨[(2,lP 0 0),(10,lf (.dat QI (Wq (Zs s) c.2.2 c.2.2.length))),(11,lI ((Wq (Zs s) c.2.2 c.2.2.length).length:Int)),(12,lI (k:Int))],[(0,some (.box 52 [.dat Qo c.1, .dat Qr c.2.1, .dat QD c.2.2]))]⟩) ⟨0,ap _,rfl,(fun j hj=>absurd hj (b7 j)),rfl⟩ ?_ ?_
 exact wo []
 rintro m_ s_ ⟨k,hk2,hm3,hno,rfl⟩
 iterate 4 refine w_ ?_
 cases hb4:(decide ((k:Int) < ((Wq (Zs s) c.2.2 c.2.2.length).length:Int)))
 have hb4':=a6 hb4
 iterate 7 refine w_ ?_
 subst hO
 have e5:(true:Bool)=(!Jd c s):=by
  first | exact Qqv hno (by omega)
 exact Qe (Res.one rfl (Qb rfl)) (by rw[← e5] <;> rfl) rfl
 have hb4':=a7 hb4
 iterate 5 refine w_ ?_
 obtain ⟨v,hx7⟩:=gx (Wq (Zs s) c.2.2 c.2.2.length) k
 obtain ⟨jv,av,hjv,hjk,hja,hjd⟩:=Qh2 hx7
 iterate 2 refine w_ ?_
 refine AL.fact (Ql (x:= .tmp 15) (Qa rfl)) fun hi8=> ?_
 iterate 6 refine w_ ?_
 obtain ⟨ar,hx10⟩:=gx c.2.2 ((v).toNat)
 have hlab:=(hs.2.2.arcs _ (a8 hx10)).2.2.1
 have hslt:ar.2.1 < (c.1.length:Int):=Ud hlab
 iterate 3 refine w_ ?_
 refine AL.fact (Ql (x:= .tmp 21) (Qa rfl)) fun hi11=> ?_
 iterate 6 refine w_ ?_
 cases hb12:(decide (0≤ar.2.1))
 have hb12':=a6 hb12
 iterate 15 refine w_ ?_
 refine Qc<|QE ⟨k+1,by omega,rfl,(YM hno hx7 (fun a ha=>by cases (hx10).symm.trans ha; first | exact (Qgt (by omega)).symm | exact (QgV (by omega) hsg).symm.trans ‹_›)),rfl⟩ (by omega) ?_
 exact wo []
 have hb12':=a7 hb12
 iterate 3 refine w_ ?_
 obtain ⟨sg,hx14⟩:=gx c.1 ((ar.2.1).toNat)
 have hsg:=hx14
 iterate 6 refine w_ ?_
 cases hb15:(decide (sg.2=1))
 have hb15':=a6 hb15
 iterate 6 refine w_ ?_
 refine Qc<|QE ⟨k+1,by omega,rfl,(YM hno hx7 (fun a ha=>by cases (hx10).symm.trans ha; first | exact (Qgt (by omega)).symm | exact (QgV (by omega) hsg).symm.trans ‹_›)),rfl⟩ (by omega) ?_
 exact wo []
 have hb15':=a7 hb15
 iterate 5 refine w_ ?_
 subst hO
 have e16:(false:Bool)=(!Jd c s):=by
  exact Qou hx7 hx10 ((QgV (by omega) hsg).symm.trans ‹_›)
 exact Qe (Res.one rfl (Qb rfl)) (by rw[← e16] <;> rfl) rfl
theorem QcG (a:Int×Int×Bool×Int)(signs:ByteArray)(c:(List (ByteArray×Int))×List ByteArray×(List (Int×Int×Bool×Int)))(h1:0≤a.1∧a.1 < (signs.size:Int))(h2:0≤a.2.2.2∧a.2.2.2 < (signs.size:Int))(h3:a.2.1 < (c.1.length:Int)):FC Tryz.prog 191 [(true,[dI a.1,dI a.2.1,dB a.2.2.1,dI a.2.2.2]),(false,[.ptr 0 0]),(false,[.ptr 1 0])] [(0,some (.box 9 [dS signs])),(1,some (.box 52 [.dat Qo c.1, .dat Qr c.2.1, .dat QD c.2.2]))] 2 (Is (lB (Zs signs a&&XE c a.2.1)) [(0,some (.box 9 [dS signs])),(1,some (.box 52 [.dat Qo c.1, .dat Qr c.2.1, .dat QD c.2.2]))]):=by
 refine Qy Tryz.func191 rfl rfl Tryz.ntmps191 fun O_ hO w0_ N0_ X_ h0_ f0_=> ?_
 refine AC.fact (QH (x:= .tmp 0) (i:=0) (Qf rfl) rfl) fun hi1=>AC.fact (QH (x:= .tmp 0) (i:=1) (Qf rfl) rfl) fun hi2=>AC.fact (QH (x:= .tmp 0) (i:=3) (Qf rfl) rfl) fun hi3=> ?_
 refine w_ ?_
 refine xbx 2 ?_
 iterate 5 refine w_ ?_
 refine lc (dK (Xh a signs h1 h2) Ks) ?_
 refine w_ ?_
 cases hb4:(Zs signs a)
 iterate 8 refine w_ ?_
 subst hO
 have e5:(false:Bool)=(Zs signs a&&XE c a.2.1):=by
  (simp_all; done)
 exact QF _ _ [] (Res.one rfl (Qb rfl)) (by rw[← e5] <;> rfl) ⟨rfl,rfl,trivial⟩ rfl rfl
 iterate 3 refine w_ ?_
 refine lgy rfl rfl (dK (XX c a.2.1 h3) Km) ?_
 iterate 4 refine w_ ?_
 subst hO
 have e6:(XE c a.2.1:Bool)=(Zs signs a&&XE c a.2.1):=by
  (simp_all; done)
 exact QF _ _ [] (Res.one rfl (Qb rfl)) ((congrArg (fun z_=>lB z_) e6)) ⟨rfl,rfl,trivial⟩ rfl rfl
theorem Kl (l:List (Int×Int×Bool×Int))(signs:ByteArray)(c:(List (ByteArray×Int))×List ByteArray×(List (Int×Int×Bool×Int)))(ht:∀a∈l,((0≤a.1∧a.1 < (signs.size:Int))∧0≤a.2.2.2∧a.2.2.2 < (signs.size:Int))∧a.2.1 < (c.1.length:Int)):FC Tryz.prog 276 [(false,[.dat QD l]),(false,[.clo 191 [0,1]])] [(0,some (.box 9 [dS signs])),(1,some (.box 52 [.dat Qo c.1, .dat Qr c.2.1, .dat QD c.2.2]))] 2 (Is (lI (Ze (fun a:DAr=>Zs signs a&&XE c a.2.1) l)) [(0,some (.box 9 [dS signs])),(1,some (.box 52 [.dat Qo c.1, .dat Qr c.2.1, .dat QD c.2.2]))]):=by
 refine Qy Tryz.func276 rfl rfl Tryz.ntmps276 fun O_ hO w0_ N0_ X_ h0_ f0_=> ?_
 iterate 6 refine w_ ?_
 refine AL.fact (Qp (x:= .tmp 6) (Qa rfl)) fun hl1=> ?_
 iterate 4 refine w_ ?_
 refine Qm (fun m_ s_=>∃(k:Nat),k≤l.length∧m_=l.length - k∧(NoneTo (fun a:DAr=>Zs signs a&&XE c a.2.1) l k)∧s_=⟨[(0,lf (.dat QD l)),(1,lf (.clo 191 [0,1])),(7,lI (l.length:Int)),(8,lI (k:Int))],[(0,some (.box 9 [dS signs])),(1,some (.box 52 [.dat Qo c.1, .dat Qr c.2.1, .dat QD c.2.2]))]⟩) ⟨0,ap _,rfl,NoneTo.zero,rfl⟩ ?_ ?_
 exact wo []
 rintro m_ s_ ⟨k,hk2,hm3,hno,rfl⟩
 iterate 4 refine w_ ?_
 cases hb4:(decide ((k:Int) < (l.length:Int)))
 have hb4':=a6 hb4
 iterate 7 refine w_ ?_
 subst hO
 have e5:((-1):Int)=(Ze (fun a:DAr=>Zs signs a&&XE c a.2.1) l):=by
  first | exact (hno.no (by omega)).symm
 exact QF _ _ [] (Res.one rfl (Qb rfl)) (by rw[← e5] <;> rfl) ⟨rfl,rfl,trivial⟩ rfl rfl
 have hb4':=a7 hb4
 iterate 12 refine w_ ?_
 obtain ⟨x6,hx7⟩:=gx l k
 have htl:=ht _ (a8 hx7)
 iterate 2 refine w_ ?_
 refine lc (Xn (args0:=[(true,[dI x6.1,dI x6.2.1,dB x6.2.2.1,dI x6.2.2.2])]) (caps:=[0,1]) 2 [(0,0),(1,1)] (QcG x6 signs c htl.1.1 htl.1.2 htl.2) Qj2 rfl (Qa rfl) rfl rfl ⟨_,_,rfl,(Qf rfl),rfl⟩ ⟨rfl,rfl,trivial⟩ rfl ⟨trivial,trivial,trivial⟩ (nlr rfl)) ?_
 refine w_ ?_
 cases hb8:(Zs signs x6&&XE c x6.2.1)
 iterate 6 refine w_ ?_
 refine Qc<|QE ⟨k+1,by omega,rfl,hno.step hx7 ‹_›,rfl⟩ (by omega) ?_
 exact wo []
 iterate 6 refine w_ ?_
 subst hO
 have e9:((k:Int):Int)=(Ze (fun a:DAr=>Zs signs a&&XE c a.2.1) l):=by
  exact (hno.at hx7 ‹_›).symm
 exact QF _ _ [] (Res.one rfl (Qb rfl)) (by rw[e9] <;> rfl) ⟨rfl,rfl,trivial⟩ rfl rfl
theorem V6 (l:List (Int×Int×Bool×Int))(signs:ByteArray)(c:(List (ByteArray×Int))×List ByteArray×(List (Int×Int×Bool×Int)))(ht:∀a∈l,((0≤a.1∧a.1 < (signs.size:Int))∧0≤a.2.2.2∧a.2.2.2 < (signs.size:Int))∧a.2.1 < (c.1.length:Int)):FC Tryz.prog 190 [(false,[.dat QD l]),(false,[.clo 191 [0,1]])] [(0,some (.box 9 [dS signs])),(1,some (.box 52 [.dat Qo c.1, .dat Qr c.2.1, .dat QD c.2.2]))] 2 (Is (lB (l.any (fun a:DAr=>Zs signs a&&XE c a.2.1))) [(0,some (.box 9 [dS signs])),(1,some (.box 52 [.dat Qo c.1, .dat Qr c.2.1, .dat QD c.2.2]))]):=by
 refine Qy Tryz.func190 rfl rfl Tryz.ntmps190 fun O_ hO w0_ N0_ X_ h0_ f0_=> ?_
 iterate 6 refine w_ ?_
 refine lc (dP 2 [] (Kl l signs c ht) HH) ?_
 iterate 4 refine w_ ?_
 subst hO
 have e1:(decide (0≤(Ze (fun a:DAr=>Zs signs a&&XE c a.2.1) l)):Bool)=(l.any (fun a:DAr=>Zs signs a&&XE c a.2.1)):=by
  exact VN _ _
 exact QF _ _ [] (Res.one rfl (Qb rfl)) (by rw[e1] <;> rfl) ⟨rfl,rfl,trivial⟩ rfl rfl
theorem Qaw (c:(List (ByteArray×Int))×List ByteArray×(List (Int×Int×Bool×Int)))(sig:Int)(hs:SgOk c)(hg:0≤sig∧sig≤7):FC Tryz.prog 277 [(true,[.dat Qo c.1, .dat Qr c.2.1, .dat QD c.2.2]),(false,[dI sig])] [] 0 (Xe 3 .int (Kk c sig c.2.2.length)):=by
 have hr:∀a∈c.2.2,InR c.2.1.length a:=fun a ha=>Xi (hs.arcs a ha)
 have hn3:=hs.some_
 have hfw:=hs.few
 have hs8:=hs.sigs.2.2
 have hml:=QaJ (n:=c.2.1.length) (as_:=c.2.2)
 refine Qy Tryz.func277 rfl rfl Tryz.ntmps277 fun O_ hO w0_ N0_ X_ h0_ f0_=> ?_
 refine AC.fact (Ql (x:= .tmp 1) (Qa rfl)) fun hi1=> ?_
 refine w_ ?_
 refine xbx 0 ?_
 iterate 3 refine w_ ?_
 refine lc (dBs 1 (e:= .int) YD) ?_
 refine w_ ?_
 refine lc (dK (VS c hs.w).frozen Qdr) ?_
 iterate 7 refine w_ ?_
 refine AL.fact (Qp (x:= .tmp 13) (Qa rfl)) fun hl2=> ?_
 iterate 4 refine w_ ?_
 refine Qm (fun m_ s_=>∃(k:Nat),k≤c.2.2.length∧m_=c.2.2.length - k∧s_=⟨[(1,lI sig),(4,lf (.val (.slice none 0 0))),(5,lR 2),(6,lf (.dat QI (XL c.2.1.length c.2.2))),(13,lf (.dat QD c.2.2)),(14,lI (c.2.2.length:Int)),(15,lI (k:Int))],[(2,some (.arr 3 .int (Kk c sig k)))]⟩) ⟨0,ap _,rfl,rfl⟩ ?_ ?_
 exact wp [(2,1)] ⟨(Qh (rfl)),trivial⟩
 rintro m_ s_ ⟨k,hk3,hm4,rfl⟩
 have hnl:=UU (f:=Qkn c sig) (as_:=c.2.2) (k:=k)
 have hnl2:(Kk c sig k).length≤k:=hnl
 iterate 4 refine w_ ?_
 cases hb5:(decide ((k:Int) < (c.2.2.length:Int)))
 have hb5':=a6 hb5
 iterate 8 refine w_ ?_
 subst hO
 refine Zc (e:= .int) (xs:=(Kk c sig k)) (Res.one rfl (Qb rfl)) rfl ?_
 (congr 1; omega)
 have hb5':=a7 hb5
 iterate 6 refine w_ ?_
 obtain ⟨ar,hx7⟩:=gx c.2.2 k
 have hain:=hr _ (a8 hx7)
 obtain ⟨⟨ha1,ha2⟩,ha3,ha4⟩:=hain
 have hlab:=(hs.arcs _ (a8 hx7)).2.2.1
 have hslt:ar.2.1 < (c.1.length:Int):=Ud hlab
 iterate 2 refine w_ ?_
 refine lc (xal 3 QA Za) ?_
 iterate 3 refine w_ ?_
 cases hb8:(!decide (ar.2.1=sig))
 have hb8':(ar.2.1=sig):=QT hb8
 apply dW [io 20 _,io 21 _,io 22 _,io 23 (lB false),io 24 _,io 25 _,io 26 _,io 27 _,io 28 _,io 29 _,io 30 _,io 31 _,io 32 _,io 33 _,io 34 _,io 35 _,io 36 _,io 37 _,io 38 _,io 39 _,io 40 _,io 41 _] [0,0,3,0,0,0,32,32,0,0,992,2016,2016,992,992,0,65504,65504,0,0,0,0]
 iterate 3 refine z_ ?_
 refine zz (fun _ h_=>ac (QL (QdV (QoV hb8)) (Qav (h_.v rfl) (h_.v rfl) rfl)) rfl) ?_
 iterate 18 refine z_ ?_
 exact zN
 iterate 6 refine w_ ?_
 refine Qc<|QE ⟨k+1,by omega,rfl,rfl⟩ (by omega) ?_
 exact wp [] ⟨(Qh (by first | exact W3 hx7 (QgT ‹_›) | exact W3 hx7 ((He (fun a ha=>(hr a ha).1.1) ⟨⟨ha1,ha2⟩,ha3,ha4⟩ hg.1 ‹_› hx hy).symm.trans ‹_›) | exact V2 hx7 ((He (fun a ha=>(hr a ha).1.1) ⟨⟨ha1,ha2⟩,ha3,ha4⟩ hg.1 ‹_› hx hy).symm.trans ‹_›))),trivial⟩
 have hb8':¬(ar.2.1=sig):=Q0 hb8
 obtain ⟨x,hx10⟩:=gx (XL c.2.1.length c.2.2) ((ar.1).toNat)
 have hx:=hx10
 have hnx:=QaT _ (a8 hx10)
 obtain ⟨y,hx12⟩:=gx (XL c.2.1.length c.2.2) ((ar.2.2.2).toNat)
 have hy:=hx12
 have hny:=QaT _ (a8 hx12)
 apply dW [io 20 _,io 21 _,io 22 _,io 23 (lB true),io 24 _,io 25 _,io 26 _,io 27 _,io 28 _,io 29 _,io 30 _,io 31 _,io 32 _,io 33 _,io 34 _,io 35 (lI ((x.toNat ^^^ (x.toNat &&& y.toNat):Nat):Int)),io 36 _,io 37 (lI (2*sig)),io 38 (lI (((x.toNat ^^^ (x.toNat &&& y.toNat):Nat):Int) / 2 ^ (2*sig).toNat)),io 39 (lI (((((x.toNat ^^^ (x.toNat &&& y.toNat):Nat):Int) / 2 ^ (2*sig).toNat).toNat &&& (3:Int).toNat:Nat):Int)),io 40 _,io 41 _] [0,0,3,0,0,0,32,32,0,0,992,2016,2016,992,992,0,65504,65504,0,0,0,0]
 iterate 3 refine z_ ?_
 refine zz (fun _ h_=>ac (QL (QdV (QoV hb8)) (Qav (h_.v rfl) (h_.v rfl) rfl)) rfl) ?_
 iterate 11 refine z_ ?_
 refine zz (fun _ h_=>day rfl (h_.k rfl) (QhG (h_.v rfl) (h_.v rfl) rfl (by first | exact hnx | exact hny | exact co (nn2 hnx hny) (ck (by decide)) | omega | exact bN _) (by first | exact hnx | exact hny | exact co (nn2 hnx hny) (ck (by decide)) | omega | exact bN _)) rfl) ?_
 refine z_ ?_
 refine zz (fun _ h_=>day rfl (h_.k rfl) (W6 (Qu rfl) (h_.v rfl) rfl (by omega)) rfl)<|zz (fun _ h_=>day rfl (h_.k rfl) (Qe5 (h_.v rfl) (h_.v rfl) rfl (by omega) (by first | exact hnx | exact hny | exact co (nn2 hnx hny) (ck (by decide)) | omega | exact bN _)) rfl)<|zz (fun _ h_=>day rfl (h_.k rfl) (QdS (h_.v rfl) (Qu rfl) rfl (by first | exact hnx | exact hny | exact co (nn2 hnx hny) (ck (by decide)) | omega | exact bN _) (by omega)) rfl) ?_
 iterate 2 refine z_ ?_
 exact zN
 cases hb13:(!decide ((((((x.toNat ^^^ (x.toNat &&& y.toNat):Nat):Int) / 2 ^ (2*sig).toNat).toNat &&& (3:Int).toNat:Nat):Int)=0))
 have hb13':((((((x.toNat ^^^ (x.toNat &&& y.toNat):Nat):Int) / 2 ^ (2*sig).toNat).toNat &&& (3:Int).toNat:Nat):Int)=0):=QT hb13
 iterate 6 refine w_ ?_
 refine Qc<|QE ⟨k+1,by omega,rfl,rfl⟩ (by omega) ?_
 exact wp [] ⟨(Qh (by first | exact W3 hx7 (QgT ‹_›) | exact W3 hx7 ((He (fun a ha=>(hr a ha).1.1) ⟨⟨ha1,ha2⟩,ha3,ha4⟩ hg.1 ‹_› hx hy).symm.trans ‹_›) | exact V2 hx7 ((He (fun a ha=>(hr a ha).1.1) ⟨⟨ha1,ha2⟩,ha3,ha4⟩ hg.1 ‹_› hx hy).symm.trans ‹_›))),trivial⟩
 have hb13':¬((((((x.toNat ^^^ (x.toNat &&& y.toNat):Nat):Int) / 2 ^ (2*sig).toNat).toNat &&& (3:Int).toNat:Nat):Int)=0):=Q0 hb13
 iterate 4 refine w_ ?_
 refine lc (dBs 4 (e:= .int) YD) ?_
 refine lc (dA 5 XR) ?_
 refine w_ ?_
 refine Qc ?_
 iterate 4 refine w_ ?_
 refine Qc<|QE ⟨k+1,by omega,rfl,rfl⟩ (by omega) ?_
 exact wp [(2,5)] ⟨(Qh (by first | exact W3 hx7 (QgT ‹_›) | exact W3 hx7 ((He (fun a ha=>(hr a ha).1.1) ⟨⟨ha1,ha2⟩,ha3,ha4⟩ hg.1 ‹_› hx hy).symm.trans ‹_›) | exact V2 hx7 ((He (fun a ha=>(hr a ha).1.1) ⟨⟨ha1,ha2⟩,ha3,ha4⟩ hg.1 ‹_› hx hy).symm.trans ‹_›))),trivial⟩
theorem VJ (c:(List (ByteArray×Int))×List ByteArray×(List (Int×Int×Bool×Int)))(hs:SgOk c):FC Tryz.prog 193 [(true,[.dat Qo c.1, .dat Qr c.2.1, .dat QD c.2.2])] [] 0 (Zk (lI (Vx c))):=by
 have hr:∀a∈c.2.2,InR c.2.1.length a:=fun a ha=>Xi (hs.arcs a ha)
 have hn3:=hs.some_
 have hfw:=hs.few
 have hs8:=hs.sigs.2.2
 have hol:=QbB (ss:=c.1) (k:=c.1.length)
 refine Qy Tryz.func193 rfl rfl Tryz.ntmps193 fun O_ hO w0_ N0_ X_ h0_ f0_=> ?_
 refine w_ ?_
 refine xbx 0 ?_
 iterate 8 refine w_ ?_
 refine lc (dK (KS c (by omega)).frozen QeR) ?_
 refine AL.fact (Qp (x:= .tmp 7) (Qa rfl)) fun hl1=> ?_
 iterate 4 refine w_ ?_
 refine Qm (fun m_ s_=>∃(k:Nat),k≤(ZI c.1 c.1.length).length∧m_=(ZI c.1 c.1.length).length - k∧s_=⟨[(1,lP 0 0),(2,lI 0),(3,lI (Ju c ((ZI c.1 c.1.length).take k))),(7,lf (.dat QI (ZI c.1 c.1.length))),(8,lI ((ZI c.1 c.1.length).length:Int)),(9,lI (k:Int))],[(0,some (.box 52 [.dat Qo c.1, .dat Qr c.2.1, .dat QD c.2.2]))]⟩) ⟨0,ap _,rfl,rfl⟩ ?_ ?_
 exact Wk.of [] rfl ⟨rfl,rfl,(show some (lI 0)=some (lI (Ju c ((ZI c.1 c.1.length).take 0))) from congrArg (fun z_=>some (lI z_)) (rfl)),rfl,rfl,rfl,trivial⟩ ⟨rfl,trivial⟩ rfl rfl
 rintro m_ s_ ⟨k,hk3,hm4,rfl⟩
 have hds:=Qqj (k:=k) hs hol
 iterate 4 refine w_ ?_
 cases hb5:(decide ((k:Int) < ((ZI c.1 c.1.length).length:Int)))
 have hb5':=a6 hb5
 iterate 8 refine w_ ?_
 subst hO
 have e6:(Ju c ((ZI c.1 c.1.length).take k):Int)=(Vx c):=by
  exact Qql (by omega) rfl
 exact Qe (Res.one rfl (Qb rfl)) (by rw[e6] <;> rfl) rfl
 have hb5':=a7 hb5
 iterate 5 refine w_ ?_
 obtain ⟨sg,hx8⟩:=gx (ZI c.1 c.1.length) k
 obtain ⟨jo,hjo,hjl,_⟩:=UX.1 (a8 hx8)
 have hdl:(Kk c sg c.2.2.length).length≤c.2.2.length:=UU
 iterate 2 refine w_ ?_
 refine AL.fact (Ql (x:= .tmp 12) (Qa rfl)) fun hi9=> ?_
 iterate 6 refine w_ ?_
 refine lc (dO 1 (Qaw c sg hs (by omega)) QjN) ?_
 iterate 3 refine w_ ?_
 refine Qc ?_
 iterate 4 refine w_ ?_
 refine Qc<|QE ⟨k+1,by omega,rfl,rfl⟩ (by omega) ?_
 exact Wk.of [] rfl ⟨rfl,rfl,(show some (lI ((Ju c ((ZI c.1 c.1.length).take k))+((Kk c sg c.2.2.length).length:Int)))=some (lI (Ju c ((ZI c.1 c.1.length).take (k+1)))) from congrArg (fun z_=>some (lI z_)) (Qof hx8)),rfl,rfl,rfl,trivial⟩ ⟨rfl,trivial⟩ rfl rfl
theorem QbF (c:(List (ByteArray×Int))×List ByteArray×(List (Int×Int×Bool×Int)))(sig:Int)[∀c,Decidable (SgOk c)]:FC Tryz.prog 345 [(true,[.dat Qo c.1, .dat Qr c.2.1, .dat QD c.2.2]),(false,[dI sig])] [] 0 (Zk (lB (decide (SgOk c∧(0≤sig∧sig≤(c.1.length:Int) - 1))))):=by
 refine Qy Tryz.func345 rfl rfl Tryz.ntmps345 fun O_ hO w0_ N0_ X_ h0_ f0_=> ?_
 refine AC.fact (Ql (x:= .tmp 1) (Qa rfl)) fun hi1=> ?_
 refine w_ ?_
 refine xbx 0 ?_
 iterate 4 refine w_ ?_
 refine lc (dK (Yn c) WR) ?_
 refine w_ ?_
 cases hb2:(decide (SgOk c))
 have hb2':=a6 hb2
 iterate 10 refine w_ ?_
 subst hO
 have e3:(false:Bool)=(decide (SgOk c∧(0≤sig∧sig≤(c.1.length:Int) - 1))):=by
  (simp_all; done)
 exact Qe (Res.one rfl (Qb rfl)) (by rw[← e3] <;> rfl) rfl
 have hb2':=a7 hb2
 iterate 3 refine w_ ?_
 refine AL.fact (Qp (x:= .tmp 10) (Qa rfl)) fun hl4=> ?_
 iterate 2 refine w_ ?_
 refine lgy rfl rfl (dK (XB sig 0 ((c.1.length:Int) - 1)) WQ) ?_
 iterate 4 refine w_ ?_
 subst hO
 have e5:(decide (0≤sig∧sig≤((c.1.length:Int) - 1)):Bool)=(decide (SgOk c∧(0≤sig∧sig≤(c.1.length:Int) - 1))):=by
  (simp_all; done)
 exact Qe (Res.one rfl (Qb rfl)) (by rw[e5] <;> rfl) rfl
theorem H0 (c:(List (ByteArray×Int))×List ByteArray×(List (Int×Int×Bool×Int)))(sig:Int)(up:Bool)(hl:c.2.2.length≤4000):FC Tryz.prog 346 [(true,[.dat Qo c.1, .dat Qr c.2.1, .dat QD c.2.2]),(false,[dI sig]),(false,[dB up])] [] 0 (Xe 3 .int (exS sig up c.2.2)):=by
 refine Qy Tryz.func346 rfl rfl Tryz.ntmps346 fun O_ hO w0_ N0_ X_ h0_ f0_=> ?_
 refine AC.fact (Ql (x:= .tmp 1) (Qa rfl)) fun hi1=> ?_
 refine w_ ?_
 refine xbx 0 ?_
 iterate 9 refine w_ ?_
 refine AL.fact (Qp (x:= .tmp 11) (Qa rfl)) fun hl2=> ?_
 iterate 4 refine w_ ?_
 refine AC.wk (Wk.nilS 1 7 3 .int rfl (Fresh.of rfl) (nlr rfl)) ?_
 refine Qm (fun m_ s_=>∃(k:Nat),k≤c.2.2.length∧m_=c.2.2.length - k∧s_=⟨[(1,lI sig),(2,lB up),(6,lf (.val (.slice none 0 0))),(7,lR 2),(11,lf (.dat QD c.2.2)),(12,lI (c.2.2.length:Int)),(13,lI (k:Int))],[(2,some (.arr 3 .int (exS sig up (c.2.2.take k))))]⟩) ⟨0,ap _,rfl,rfl⟩ ?_ ?_
 exact wp [(2,1)] ⟨(Qh (rfl)),trivial⟩
 rintro m_ s_ ⟨k,hk3,hm4,rfl⟩
 have hel:=QrU (sig:=sig) (up:=up) (as_:=c.2.2) (k:=k)
 iterate 4 refine w_ ?_
 cases hb5:(decide ((k:Int) < (c.2.2.length:Int)))
 have hb5':=a6 hb5
 iterate 8 refine w_ ?_
 subst hO
 refine Zc (e:= .int) (xs:=(exS sig up (c.2.2.take k))) (Res.one rfl (Qb rfl)) rfl ?_
 rw[QN (by omega)]
 have hb5':=a7 hb5
 iterate 5 refine w_ ?_
 obtain ⟨ar,hx7⟩:=gx c.2.2 k
 iterate 2 refine w_ ?_
 refine lc (xal 3 QA Za) ?_
 iterate 6 refine w_ ?_
 refine lc (dK (Uw ar sig up) HE) ?_
 refine w_ ?_
 cases hb8:(decide (ar.2.1=sig∧ar.2.2.1=up))
 have hb8':=a6 hb8
 iterate 6 refine w_ ?_
 refine Qc<|QE ⟨k+1,by omega,rfl,rfl⟩ (by omega) ?_
 exact wp [] ⟨(Qh (by first | exact Qi2 hx7 ‹_› | exact Qmg hx7 ‹_›)),trivial⟩
 have hb8':=a7 hb8
 iterate 5 refine w_ ?_
 refine AL.fact (Ql (x:= .tmp 23) (Qa rfl)) fun hi9=> ?_
 refine lc (dP 4 [(0,2)] (Xd (exS sig up (c.2.2.take k)) ar.1 (by omega)) WU) ?_
 refine w_ ?_
 refine Qc ?_
 iterate 4 refine w_ ?_
 refine Qc<|QE ⟨k+1,by omega,rfl,rfl⟩ (by omega) ?_
 exact wp [(2,4)] ⟨(Qh (by first | exact Qi2 hx7 ‹_› | exact Qmg hx7 ‹_›)),trivial⟩
theorem K3 (c:(List (ByteArray×Int))×List ByteArray×(List (Int×Int×Bool×Int)))(sig:Int)[∀c,Decidable (SgOk c)]:FC Tryz.prog 283 [(true,[.dat Qo c.1, .dat Qr c.2.1, .dat QD c.2.2]),(false,[dI sig])] [] 0 (Is (PV.tup [(false,[.ref 0]),(false,[dB (decide (SgOk c∧(0≤sig∧sig≤(c.1.length:Int) - 1)))])]) [(0,some (.arr 3 .int (if SgOk c∧(0≤sig∧sig≤(c.1.length:Int) - 1) then Kk c sig c.2.2.length else [])))]):=by
 refine Qy Tryz.func283 rfl rfl Tryz.ntmps283 fun O_ hO w0_ N0_ X_ h0_ f0_=> ?_
 refine AC.fact (Ql (x:= .tmp 1) (Qa rfl)) fun hi1=> ?_
 refine w_ ?_
 refine xbx 0 ?_
 iterate 7 refine w_ ?_
 refine lc (dK (QbF c sig) QkD) ?_
 iterate 2 refine w_ ?_
 cases hb2:(decide (SgOk c∧(0≤sig∧sig≤(c.1.length:Int) - 1)))
 have hb2':=a6 hb2
 iterate 5 refine w_ ?_
 refine AC.wk (Wk.nilS 1 4 3 .int rfl (Fresh.of rfl) (nlr rfl))<|Zf ?_
 subst hO
 have e3:(false:Bool)=(decide (SgOk c∧(0≤sig∧sig≤(c.1.length:Int) - 1))):=by
  (simp[*]; done)
 exact QF _ _ [(0,1)] (QM rfl (Qb rfl) (Qb rfl)) (by rw[← e3] <;> rfl) ⟨(Qh (by (rw[if_neg ‹_›]; done))),trivial⟩ rfl rfl
 have hb2':=a7 hb2
 iterate 2 refine w_ ?_
 refine Yd ?_
 have hask:SgOk c∧(0≤sig∧sig≤(c.1.length:Int) - 1):=by assumption
 have hs:=hask.1
 have hfw:=hs.few
 have h2l:([false,true]:List Bool).length=2:=rfl
 iterate 5 refine w_ ?_
 refine lc (dBs 2 (e:= .bool) QuF) ?_
 iterate 4 refine w_ ?_
 refine AC.wk (Wk.nilS 3 6 3 .int rfl (Fresh.of rfl) (nlr rfl)) ?_
 refine Qm (fun m_ s_=>∃(k:Nat),k≤2∧m_=2 - k∧s_=⟨[(1,lI sig),(2,lP 0 0),(4,lf (.val (.slice none 0 0))),(5,lB false),(6,lR 4),(16,lR 2),(17,lI (([false,true]).length:Int)),(18,lI (k:Int))],[(0,some (.box 52 [.dat Qo c.1, .dat Qr c.2.1, .dat QD c.2.2])),(2,some (.arr 4 .bool ([false,true]))),(4,some (.arr 3 .int (Qhb c sig k)))]⟩) ⟨0,ap _,rfl,rfl⟩ ?_ ?_
 exact wp [(4,3)] ⟨rfl,rfl,(Qh (rfl)),trivial⟩
 rintro m_ s_ ⟨k,hk4,hm5,rfl⟩
 iterate 4 refine w_ ?_
 cases hb6:(decide ((k:Int) < (([false,true]).length:Int)))
 have hb6':=a6 hb6
 iterate 9 refine w_ ?_
 subst hO
 have e7:(true:Bool)=(decide (SgOk c∧(0≤sig∧sig≤(c.1.length:Int) - 1))):=by
  (simp[*]; done)
 exact QF _ _ [(0,4)] (QM rfl (Qb rfl) (Qb rfl)) (by rw[← e7] <;> rfl) ⟨(Qh (by (rw[if_pos hask,show k=2 by omega,Qpo]; done))),trivial⟩ rfl rfl
 have hb6':=a7 hb6
 iterate 6 refine w_ ?_
 obtain ⟨u,hx9⟩:=gx ([false,true]) k
 iterate 7 refine w_ ?_
 refine lc (dK (H0 c sig u hfw).frozen QkQ) ?_
 iterate 5 refine w_ ?_
 refine AL.fact (Qp (x:= .tmp 27) (Qa rfl)) fun hl10=> ?_
 iterate 4 refine w_ ?_
 refine Qm (fun m_ s_=>∃(i:Nat),i≤c.2.2.length∧m_=c.2.2.length - i∧s_=⟨[(1,lI sig),(2,lP 0 0),(4,lf (.val (.slice none 0 0))),(5,lB false),(6,lR 5),(8,lB u),(9,lf (.dat QI (exS sig u c.2.2))),(16,lR 2),(17,lI (([false,true]).length:Int)),(18,lI (k:Int)),(19,lB true),(20,lf (.ept 2 1 k 0)),(21,lB u),(22,ag [.dat Qo c.1, .dat Qr c.2.1, .dat QD c.2.2]),(23,lI sig),(24,lB u),(25,lf (.dat QI (exS sig u c.2.2))),(26,lP 0 2),(27,lf (.dat QD c.2.2)),(28,lI (c.2.2.length:Int)),(29,lI (i:Int))],[(0,some (.box 52 [.dat Qo c.1, .dat Qr c.2.1, .dat QD c.2.2])),(2,some (.arr 4 .bool ([false,true]))),(5,some (.arr 3 .int (KU c sig u (Qhb c sig k) i)))]⟩) ⟨0,ap _,rfl,rfl⟩ ?_ ?_
 exact wp [(5,4)] ⟨rfl,rfl,(Qh (rfl)),trivial⟩
 rintro m_ s_ ⟨i,hk11,hm12,rfl⟩
 have hdl:=QpY (c:=c) (sig:=sig) (up:=u) (k:=i) (l:=Qhb c sig k) (Qii k) (Qpb k) (by omega)
 iterate 4 refine w_ ?_
 cases hb13:(decide ((i:Int) < (c.2.2.length:Int)))
 have hb13':=a6 hb13
 iterate 6 refine w_ ?_
 refine Qc<|QE ⟨k+1,by omega,rfl,rfl⟩ (by omega) ?_
 exact wp [(4,5)] ⟨rfl,rfl,(Qh ((by rw[show i=c.2.2.length by omega]; exact QnY (by omega) hx9))),trivial⟩
 have hb13':=a7 hb13
 iterate 6 refine w_ ?_
 obtain ⟨ar,hx15⟩:=gx c.2.2 i
 iterate 2 refine w_ ?_
 refine lc (xal 6 QA Za) ?_
 iterate 6 refine w_ ?_
 refine AL.fact (Ql (x:= .tmp 35) (Qa rfl)) fun hi16=> ?_
 iterate 3 refine w_ ?_
 cases hb17:(!decide (ar.2.1=sig))
 have hb17':(ar.2.1=sig):=QT hb17
 iterate 19 refine w_ ?_
 refine Qc<|QE ⟨i+1,by omega,rfl,rfl⟩ (by omega) ?_
 exact wp [] ⟨rfl,rfl,(Qh (by first | exact Qbj hx15 (Qhr ‹_› ‹_› ‹_›) | exact XY hx15 (Qhs ‹_›) | exact XY hx15 (QgC ‹_›) | exact XY hx15 (Qg6 ‹_›))),trivial⟩
 have hb17':¬(ar.2.1=sig):=Q0 hb17
 iterate 3 refine w_ ?_
 refine lgy rfl rfl (dK (Z6 (exS sig u c.2.2) ar.1) Y5) ?_
 iterate 2 refine w_ ?_
 cases hb18:(decide (ar.1∈(exS sig u c.2.2)))
 have hb18':=a6 hb18
 iterate 13 refine w_ ?_
 refine Qc<|QE ⟨i+1,by omega,rfl,rfl⟩ (by omega) ?_
 exact wp [] ⟨rfl,rfl,(Qh (by first | exact Qbj hx15 (Qhr ‹_› ‹_› ‹_›) | exact XY hx15 (Qhs ‹_›) | exact XY hx15 (QgC ‹_›) | exact XY hx15 (Qg6 ‹_›))),trivial⟩
 have hb18':=a7 hb18
 iterate 3 refine w_ ?_
 refine lgy rfl rfl (dK (Z6 (exS sig u c.2.2) ar.2.2.2) Y5) ?_
 iterate 3 refine w_ ?_
 cases hb19:(decide (ar.2.2.2∈(exS sig u c.2.2)))
 have hb19':=a6 hb19
 iterate 4 refine w_ ?_
 refine lc (dP 7 [(0,5)] (Xd (KU c sig u (Qhb c sig k) i) (i:Int) (by omega)) WU) ?_
 refine w_ ?_
 refine Qc ?_
 iterate 4 refine w_ ?_
 refine Qc<|QE ⟨i+1,by omega,rfl,rfl⟩ (by omega) ?_
 exact wp [(5,7)] ⟨rfl,rfl,(Qh (by first | exact Qbj hx15 (Qhr ‹_› ‹_› ‹_›) | exact XY hx15 (Qhs ‹_›) | exact XY hx15 (QgC ‹_›) | exact XY hx15 (Qg6 ‹_›))),trivial⟩
 have hb19':=a7 hb19
 iterate 6 refine w_ ?_
 refine Qc<|QE ⟨i+1,by omega,rfl,rfl⟩ (by omega) ?_
 exact wp [] ⟨rfl,rfl,(Qh (by first | exact Qbj hx15 (Qhr ‹_› ‹_› ‹_›) | exact XY hx15 (Qhs ‹_›) | exact XY hx15 (QgC ‹_›) | exact XY hx15 (Qg6 ‹_›))),trivial⟩
theorem We (c:(List (ByteArray×Int))×List ByteArray×(List (Int×Int×Bool×Int)))[∀c,Decidable (SgOk c)]:FC Tryz.prog 203 [(true,[.dat Qo c.1, .dat Qr c.2.1, .dat QD c.2.2])] [] 0 (Zk (PV.tup [(false,[dI (if SgOk c then Vx c else 0)]),(false,[dB (decide (SgOk c))])])):=by
 refine Qy Tryz.func203 rfl rfl Tryz.ntmps203 fun O_ hO w0_ N0_ X_ h0_ f0_=> ?_
 refine w_ ?_
 refine xbx 0 ?_
 iterate 6 refine w_ ?_
 refine lc (dK (Yn c) WR) ?_
 iterate 2 refine w_ ?_
 cases hb1:(decide (SgOk c))
 have hb1':=a6 hb1
 iterate 6 refine w_ ?_
 subst hO
 have e2:(0:Int)=(if SgOk c then Vx c else 0):=by
  (rw[if_neg ‹_›]; done)
 have e3:(false:Bool)=(decide (SgOk c)):=by
  (simp[*]; done)
 exact Qe (QM rfl (Qb rfl) (Qb rfl)) (by rw[← e2,← e3] <;> rfl) rfl
 have hb1':=a7 hb1
 iterate 2 refine w_ ?_
 refine Yd ?_
 have hs:SgOk c:=by assumption
 iterate 7 refine w_ ?_
 refine AL.fact (Qp (x:= .tmp 13) (Qa rfl)) fun hl4=> ?_
 iterate 4 refine w_ ?_
 refine Qm (fun m_ s_=>∃(k:Nat),k≤c.1.length∧m_=c.1.length - k∧s_=⟨[(1,lP 0 0),(2,lI 0),(3,lB false),(4,lI (Vq c k)),(13,lf (.dat Qo c.1)),(14,lI (c.1.length:Int)),(15,lI (k:Int))],[(0,some (.box 52 [.dat Qo c.1, .dat Qr c.2.1, .dat QD c.2.2]))]⟩) ⟨0,ap _,rfl,rfl⟩ ?_ ?_
 exact Wk.of [] rfl ⟨rfl,rfl,rfl,(show some (lI 0)=some (lI (Vq c 0)) from congrArg (fun z_=>some (lI z_)) (rfl)),rfl,rfl,rfl,trivial⟩ ⟨rfl,trivial⟩ rfl rfl
 rintro m_ s_ ⟨k,hk6,hm7,rfl⟩
 have hds:=Qph (k:=k) hs (by omega)
 have hdl:(Kk c (k:Int) c.2.2.length).length≤c.2.2.length:=UU
 have hfw:=hs.few
 have hie:k < c.1.length→(if SgOk c∧(0≤(k:Int)∧(k:Int)≤(c.1.length:Int) - 1) then Kk c (k:Int) c.2.2.length else []).length≤c.2.2.length:=fun h=>by rw[if_pos ⟨hs,by omega⟩]; exact hdl
 iterate 4 refine w_ ?_
 cases hb8:(decide ((k:Int) < (c.1.length:Int)))
 have hb8':=a6 hb8
 iterate 9 refine w_ ?_
 subst hO
 have e9:(Vq c k:Int)=(if SgOk c then Vx c else 0):=by
  (rw[if_pos hs,show k=c.1.length by omega]; rfl)
 have e10:(true:Bool)=(decide (SgOk c)):=by
  (simp[*]; done)
 exact Qe (QM rfl (Qb rfl) (Qb rfl)) (by rw[e9,← e10] <;> rfl) rfl
 have hb8':=a7 hb8
 iterate 6 refine w_ ?_
 obtain ⟨sg,hx12⟩:=gx c.1 k
 have hie2:=hie (by omega)
 iterate 2 refine w_ ?_
 refine lc (xal 1 QK Vp) ?_
 iterate 6 refine w_ ?_
 refine lc (dG 2 (K3 c (k:Int)) QjQ) ?_
 iterate 9 refine w_ ?_
 refine AL.fact (Ql (x:= .tmp 27) (Qa rfl)) fun hi13=> ?_
 iterate 2 refine w_ ?_
 cases hb14:(!decide (sg.2=1))
 have hb14':(sg.2=1):=QT hb14
 iterate 6 refine w_ ?_
 refine Qc<|QE ⟨k+1,by omega,rfl,rfl⟩ (by omega) ?_
 exact Wk.of [] rfl ⟨rfl,rfl,rfl,(show some (lI (Vq c k))=some (lI (Vq c (k+1))) from congrArg (fun z_=>some (lI z_)) (by first | exact QmX hx12 ‹_› | (rw[if_pos ⟨hs,by omega⟩]; exact Qim hx12 ‹_›))),rfl,rfl,rfl,trivial⟩ ⟨rfl,trivial⟩ rfl rfl
 have hb14':¬(sg.2=1):=Q0 hb14
 iterate 7 refine w_ ?_
 refine Qc ?_
 iterate 4 refine w_ ?_
 refine Qc<|QE ⟨k+1,by omega,rfl,rfl⟩ (by omega) ?_
 exact Wk.of [] rfl ⟨rfl,rfl,rfl,(show some (lI ((Vq c k)+((if SgOk c∧(0≤(k:Int)∧(k:Int)≤(c.1.length:Int) - 1) then Kk c (k:Int) c.2.2.length else []).length:Int)))=some (lI (Vq c (k+1))) from congrArg (fun z_=>some (lI z_)) (by first | exact QmX hx12 ‹_› | (rw[if_pos ⟨hs,by omega⟩]; exact Qim hx12 ‹_›))),rfl,rfl,rfl,trivial⟩ ⟨rfl,trivial⟩ rfl rfl
end Go.Proofs.YtjaadeknhofhpaaGreat
