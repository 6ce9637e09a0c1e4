/- Walks over abstract states: arcs that disable a signal, how many there are; arcs that delay an input. -/
import Derived.Test.YtnakmhfjafecpaaGreatUe
set_option linter.unusedSimpArgs false
set_option linter.unusedVariables false
set_option linter.unusedSectionVars false
namespace Go.Proofs.YtnakmhfjafecpaaGreat
open Go.RowKit
set_option maxRecDepth 100000
set_option maxHeartbeats 4000000
def KN (c:DSg)(s:ByteArray):Bool:=c.2.2.any fun a=>Zs s a&&XD c a.2.1
def We (f:DAr→Bool)(as_:List DAr)(k:Nat):List Int:=((List.range k).filter fun i=>match as_[i]? with | some a=>f a | none=>false).map fun i=>((i:Nat):Int)
def exL (c:DSg)(q sig:Int)(up:Bool):Bool:=c.2.2.any fun a=>decide (a.1=q∧a.2.1=sig∧a.2.2.1=up)
def JV (c:DSg)(sig:Int)(up:Bool)(a:DAr):Bool:= !decide (a.2.1=sig)&&(exL c a.1 sig up&& !exL c a.2.2.2 sig up)
def QhP (c:DSg)(sig:Int)(a:DAr):Bool:=JV c sig false a||JV c sig true a
abbrev Kd (c:DSg)(sig:Int)(k:Nat):List Int:=We (QhP c sig) c.2.2 k
def W8 (c:DSg)(k:Nat):Int:=((ZW c.1 k).map fun s=>((Kd c s c.2.2.length).length:Int)).sum
def XM (c:DSg):Int:=W8 c c.1.length
def QeH (sig:Int)(up:Bool)(l:List Int)(a:DAr):List Int:=if a.2.1=sig∧a.2.2.1=up then XB ltI a.1 l else l
def exS (sig:Int)(up:Bool)(as_:List DAr):List Int:=as_.foldl (QeH sig up) []
def Km (c:DSg)(sig:Int)(up:Bool)(l:List Int)(k:Nat):List Int:=(We (JV c sig up) c.2.2 k).foldl (fun l i=>XB ltI i l) l
def Qfj (c:DSg)(sig:Int):Nat→List Int
  | 0=>[]
  | 1=>Km c sig false [] c.2.2.length
  | _=>Km c sig true (Km c sig false [] c.2.2.length) c.2.2.length
section
variable {c:DSg}{as_:List DAr}{a:DAr}{i j k n:Nat}{s:ByteArray}{sig q x y:Int}{up:Bool}{l:List Int}{f g:DAr→Bool}
theorem Vz (hx:as_[k]? =some a)(h:f a=true):We f as_ k++[(k:Int)]=We f as_ (k+1):=by
  unfold We
  rw[List.range_succ,List.filter_append,List.map_append]; simp[hx,h]
theorem WR (hx:as_[k]? =some a)(h:f a=false):We f as_ k=We f as_ (k+1):=by
  unfold We
  rw[List.range_succ,List.filter_append,List.map_append]; simp[hx,h]
theorem Ut:(We f as_ k).length≤k:=by unfold We; rw[List.length_map]; exact Nat.le_trans (List.length_filter_le ..) (by simp)
theorem Uh:x∈We f as_ k↔∃(j:Nat) (a:DAr),x=(j:Int)∧j < k∧as_[j]? =some a∧f a=true:=by
  unfold We
  simp only[List.mem_map,List.mem_filter,List.mem_range]
  constructor
  · rintro ⟨j, ⟨h1, h2⟩, rfl⟩
    cases ha:as_[j]? with
    | none=>rw[ha] at h2; cases h2
    | some a=>rw[ha] at h2; exact ⟨j,a,rfl,h1,ha,h2⟩
  · rintro ⟨j,a,rfl,h1,h2,h3⟩; exact ⟨j,⟨h1,by rw[h2]; exact h3⟩,rfl⟩
theorem Qlu:(We f as_ k).Pairwise fun x y=>ltI x y=true:=by
  induction k with
  | zero=>exact List.Pairwise.nil
  | succ k ih=>
    cases ha:as_[k]? with
    | none=>
      have:We f as_ (k+1)=We f as_ k:=by unfold We; rw[List.range_succ,List.filter_append,List.map_append]; simp[ha]
      rw[this]; exact ih
    | some a=>
      cases hf:f a with
      | false=>rw[← WR ha hf]; exact ih
      | true=>
        rw[← Vz ha hf,List.pairwise_append]
        refine ⟨ih,List.pairwise_singleton ..,fun x hx y hy=> ?_⟩
        rw[List.mem_singleton] at hy
        obtain ⟨j,_,rfl,h,_⟩:=Uh.1 hx
        simp[ltI,hy]; omega
theorem QgN {v:Int}(h:(We f as_ k)[i]? =some v):∃(j:Nat) (a:DAr),v=(j:Int)∧j < k∧as_[j]? =some a∧f a=true:=Uh.1 (List.mem_of_getElem? h)
theorem QmT (hn:∀j,j < i→∀v,(We (Zs s) c.2.2 c.2.2.length)[j]? =some v→∀a,c.2.2[v.toNat]? =some a→XD c a.2.1=false)(h:(We (Zs s) c.2.2 c.2.2.length).length≤i):true= !KN c s:=by
  cases hd:KN c s with
  | false=>rfl
  | true=>
    unfold KN at hd
    obtain ⟨a,ha,h1⟩:=List.any_eq_true.1 hd
    rw[Bool.and_eq_true] at h1
    obtain ⟨j,hj⟩:=List.mem_iff_getElem?.1 ha
    have hl:=(List.getElem?_eq_some_iff.1 hj).1
    obtain ⟨m,hm⟩:=List.mem_iff_getElem?.1 (Uh (k:=c.2.2.length).2 ⟨j,a,rfl,hl,hj,h1.1⟩)
    have hml:=(List.getElem?_eq_some_iff.1 hm).1
    have:=hn m (by omega) _ hm a (by simpa using hj)
    rw[h1.2] at this; cases this
theorem Qli {v:Int}(hv:(We (Zs s) c.2.2 c.2.2.length)[i]? =some v)(ha:c.2.2[v.toNat]? =some a)(h:XD c a.2.1=true):false= !KN c s:=by
  obtain ⟨j,b,rfl,_,hb,hd⟩:=QgN hv
  have e : b = a := by have : c.2.2[j]? = some a := by simpa using ha
                       rw[hb] at this; exact Option.some.inj this
  subst e
  have:KN c s=true:=List.any_eq_true.2 ⟨b,List.mem_of_getElem? hb,by rw[hd,h]; rfl⟩
  rw[this]; rfl
theorem Qqt (m n t:Nat):(((m ^^^ (m &&& n)) / 2 ^ t) &&& 3=0)↔(∀e,e < 2→(m.testBit (t+e)=true→n.testBit (t+e)=true)):=by
  rw[QpM]
  simp only[Nat.testBit_xor,Nat.testBit_and]
  constructor
  · rintro ⟨h0, h1⟩ e he hm
    match e,he with
    | 0,_=>simp only[Nat.add_zero] at hm ⊢; rw[hm] at h0; cases hn:n.testBit t <;> simp_all
    | 1,_=>rw[hm] at h1; cases hn:n.testBit (t+1) <;> simp_all
  · intro h
    have h0:=h 0 (by omega)
    have h1:=h 1 (by omega)
    simp only[Nat.add_zero] at h0
    constructor
    · cases hm : m.testBit t with
      | false=>rfl
      | true=>rw[h0 hm]; rfl
    · cases hm : m.testBit (t + 1) with
      | false=>rfl
      | true=>rw[h1 hm]; rfl
theorem QjK (hr:∀a∈c.2.2,0≤a.1)(hk:k < c.2.1.length)(hs:0≤sig)(up:Bool):(mAt (Xr c.2.1.length c.2.2) (k:Int)).toNat.testBit ((2*sig).toNat+(if up=true then 1 else 0))=exL c k sig up:=by
  rw[Bool.eq_iff_iff]
  unfold mAt Xr
  rw[Int.toNat_natCast,QaZ c.2.2 _ k _ hr (by simpa using hk)]
  unfold exL
  rw[List.any_eq_true]
  simp only[List.getElem?_replicate,hk,if_true,Option.getD_some,Int.toNat_zero,Nat.zero_testBit,decide_eq_true_eq]
  constructor
  · rintro (h | ⟨a, ha, h0, h1, h2⟩)
    · cases h
    · refine ⟨a, ha, h1, ?_⟩
      cases hu:a.2.2.1 <;> cases up <;> simp[hu] at h2 ⊢ <;> omega
  · rintro ⟨a, ha, h1, h2, h3⟩
    exact .inr ⟨a,ha,by omega,h1,by rw[h2,h3]⟩
theorem K3 (hr:∀a∈c.2.2,0≤a.1)(ha:InR c.2.1.length a)(hs:0≤sig)(h:¬a.2.1=sig)(hx:(Xr c.2.1.length c.2.2)[a.1.toNat]? =some x)(hy:(Xr c.2.1.length c.2.2)[a.2.2.2.toNat]? =some y):
    (!decide ((((((((x.toNat ^^^ (x.toNat &&& y.toNat):Nat):Int) / 2 ^ (2*sig).toNat)).toNat &&& (3:Int).toNat:Nat)):Int)=0))=QhP c sig a:=by
  have e:((((x.toNat ^^^ (x.toNat &&& y.toNat):Nat):Int) / 2 ^ (2*sig).toNat)).toNat=(x.toNat ^^^ (x.toNat &&& y.toNat)) / 2 ^ (2*sig).toNat:=by
    have e1:(((x.toNat ^^^ (x.toNat &&& y.toNat):Nat):Int) / 2 ^ (2*sig).toNat)=(((x.toNat ^^^ (x.toNat &&& y.toNat)) / 2 ^ (2*sig).toNat:Nat):Int):=by
      rw[Int.natCast_ediv,Int.natCast_pow]; rfl
    rw[e1]; rfl
  rw[e]
  have e3:((((x.toNat ^^^ (x.toNat &&& y.toNat)) / 2 ^ (2*sig).toNat) &&& (3:Int).toNat:Nat):Int)=0↔((x.toNat ^^^ (x.toNat &&& y.toNat)) / 2 ^ (2*sig).toNat) &&& 3=0:=by
    show ((((x.toNat ^^^ (x.toNat &&& y.toNat)) / 2 ^ (2*sig).toNat) &&& 3:Nat):Int)=0↔_
    omega
  have hx':=KW hx
  have hy':=KW hy
  have b1:∀up:Bool,x.toNat.testBit ((2*sig).toNat+(if up=true then 1 else 0))=exL c a.1 sig up:=fun up=>by
    have:=QjK (k:=a.1.toNat) hr (by have:=ha.1; omega) hs up
    rw[show ((a.1.toNat:Nat):Int)=a.1 by have:=ha.1; omega,hx'] at this
    exact this
  have b2:∀up:Bool,y.toNat.testBit ((2*sig).toNat+(if up=true then 1 else 0))=exL c a.2.2.2 sig up:=fun up=>by
    have:=QjK (k:=a.2.2.2.toNat) hr (by have:=ha.2; omega) hs up
    rw[show ((a.2.2.2.toNat:Nat):Int)=a.2.2.2 by have:=ha.2; omega,hy'] at this
    exact this
  have f1:=b1 false
  have f2:=b2 false
  have t1:=b1 true
  have t2:=b2 true
  simp only[Bool.false_eq_true,if_false,if_true,Nat.add_zero] at f1 f2 t1 t2
  have k0:(∀e,e < 2→x.toNat.testBit ((2*sig).toNat+e)=true→y.toNat.testBit ((2*sig).toNat+e)=true)↔((x.toNat.testBit (2*sig).toNat=true→y.toNat.testBit (2*sig).toNat=true)∧(x.toNat.testBit ((2*sig).toNat+1)=true→y.toNat.testBit ((2*sig).toNat+1)=true)):=
    ⟨fun hn=>⟨by simpa using hn 0 (by omega),hn 1 (by omega)⟩,fun ⟨h0,h1⟩ e he=>match e,he with
      | 0,_=>by simpa using h0
      | 1,_=>h1⟩
  rw[Bool.eq_iff_iff,Bool.not_eq_true',decide_eq_false_iff_not,e3,Qqt,k0]
  unfold QhP JV
  rw[← f1,← f2,← t1,← t2,decide_eq_false h]
  generalize x.toNat.testBit (2*sig).toNat=X0
  generalize y.toNat.testBit (2*sig).toNat=Y0
  generalize x.toNat.testBit ((2*sig).toNat+1)=X1
  generalize y.toNat.testBit ((2*sig).toNat+1)=Y1
  cases X0 <;> cases Y0 <;> cases X1 <;> cases Y1 <;> simp
theorem Qfh (h:a.2.1=sig):QhP c sig a=false:=by unfold QhP JV; simp[h]
theorem Qge (hx:as_[k]? =some a)(h:a.2.1=sig∧a.2.2.1=up):XB ltI a.1 (exS sig up (as_.take k))=exS sig up (as_.take (k+1)):=by
  unfold exS
  rw[Za hx,List.foldl_append]; simp[QeH,h]
theorem QiY (hx:as_[k]? =some a)(h:¬(a.2.1=sig∧a.2.2.1=up)):exS sig up (as_.take k)=exS sig up (as_.take (k+1)):=by
  unfold exS
  rw[Za hx,List.foldl_append]; simp[QeH,h]
theorem QdE:∀{as_:List DAr} {l:List Int},x∈as_.foldl (QeH sig up) l↔x∈l∨∃a∈as_,a.1=x∧a.2.1=sig∧a.2.2.1=up
  | [],l=>by simp
  | a :: as_,l=>by
    rw[List.foldl_cons,QdE]
    unfold QeH
    split
    · rename_i h
      rw[Wm]
      constructor
      · rintro ((rfl | h1) | ⟨b, hb, h1⟩)
        · exact .inr ⟨a,List.mem_cons_self ..,rfl,h⟩
        · exact .inl h1
        · exact .inr ⟨b,List.mem_cons_of_mem _ hb,h1⟩
      · rintro (h1 | ⟨b, hb, h1⟩)
        · exact .inl (.inr h1)
        · rcases List.mem_cons.1 hb with rfl | hb
          · exact .inl (.inl h1.1.symm)
          · exact .inr ⟨b,hb,h1⟩
    · rename_i h
      constructor
      · rintro (h1 | ⟨b, hb, h1⟩)
        · exact .inl h1
        · exact .inr ⟨b,List.mem_cons_of_mem _ hb,h1⟩
      · rintro (h1 | ⟨b, hb, h1⟩)
        · exact .inl h1
        · rcases List.mem_cons.1 hb with rfl | hb
          · exact absurd h1.2 h
          · exact .inr ⟨b,hb,h1⟩
theorem Qfu:(x∈exS sig up c.2.2)↔exL c x sig up=true:=by
  unfold exS exL
  rw[QdE,List.any_eq_true]
  simp
theorem QdU:∀{as_:List DAr} {l:List Int},(as_.foldl (QeH sig up) l).length≤l.length+as_.length
  | [],l=>Nat.le_refl _
  | a :: as_,l=>by
    have h1:=QdU (as_:=as_) (l:=QeH sig up l a)
    have h2:(QeH sig up l a).length≤l.length+1:=by
      unfold QeH
      split
      · rcases UN a.1 l with h | h
        · rw[h]; omega
        · omega
      · omega
    rw[List.foldl_cons,List.length_cons]; omega
theorem Qnd:(exS sig up (as_.take k)).length≤as_.length:=by
  have:=QdU (sig:=sig) (up:=up) (as_:=as_.take k) (l:=[])
  have h2:(as_.take k).length≤as_.length:=by simp only[List.length_take]; omega
  unfold exS; simp only[List.length_nil] at this; omega
theorem HW (hx:c.2.2[k]? =some a)(h:JV c sig up a=true):XB ltI (k:Int) (Km c sig up l k)=Km c sig up l (k+1):=by
  unfold Km
  rw[← Vz hx h,List.foldl_append]; rfl
theorem XS (hx:c.2.2[k]? =some a)(h:JV c sig up a=false):Km c sig up l k=Km c sig up l (k+1):=by
  unfold Km
  rw[← WR hx h]
theorem Uk:∀{m l:List Int},x∈m.foldl (fun l i=>XB ltI i l) l↔x∈l∨x∈m
  | [],l=>by simp
  | y :: m,l=>by
    rw[List.foldl_cons,Uk,Wm,List.mem_cons]
    constructor
    · rintro ((h | h) | h)
      · exact .inr (.inl h)
      · exact .inl h
      · exact .inr (.inr h)
    · rintro (h | h | h)
      · exact .inl (.inr h)
      · exact .inl (.inl h)
      · exact .inr h
theorem Uf:∀{m l:List Int},Qkm l→Qkm (m.foldl (fun l i=>XB ltI i l) l)
  | [],_,h=>h
  | y :: m,l,h=>Uf (m:=m) (Qdg W4 h)
theorem Qf4 (k:Nat):Qkm (Qfj c sig k):=by
  match k with
  | 0=>exact List.Pairwise.nil
  | 1=>exact Uf List.Pairwise.nil
  | k+2=>exact Uf (Uf List.Pairwise.nil)
theorem Qlm (h1:Qkm l)(h2:∀x∈l,0≤x∧x < (c.2.2.length:Int))(hk:k≤c.2.2.length):(Km c sig up l k).length≤c.2.2.length:=by
  have:=U7 (l:=Km c sig up l k) (lo:=0) (hi:=c.2.2.length) (Uf h1) (fun x hx=>by
    rcases Uk.1 hx with hx | hx
    · exact h2 x hx
    · obtain ⟨j,_,rfl,hj,_⟩:=Uh.1 hx; omega) (by omega)
  omega
theorem Qlv (k:Nat):∀x∈Qfj c sig k,0≤x∧x < (c.2.2.length:Int):=by
  have h:∀{up:Bool} {l:List Int},(∀x∈l,0≤x∧x < (c.2.2.length:Int))→∀x∈Km c sig up l c.2.2.length,0≤x∧x < (c.2.2.length:Int):=fun h2 x hx=>by
    rcases Uk.1 hx with hx | hx
    · exact h2 x hx
    · obtain ⟨j,_,rfl,hj,_⟩:=Uh.1 hx; omega
  match k with
  | 0=>intro x hx; cases hx
  | 1=>exact h fun x hx=>by cases hx
  | k+2=>exact h (h fun x hx=>by cases hx)
theorem QmX:Qfj c sig 2=Kd c sig c.2.2.length:=by
  refine TO.ext W4 (Qf4 2) Qlu fun x=> ?_
  show x∈Km c sig true (Km c sig false [] c.2.2.length) c.2.2.length↔_
  unfold Km
  rw[Uk,Uk]
  simp only[List.not_mem_nil,false_or,Uh]
  unfold QhP
  constructor
  · rintro (⟨j, a, h1, h2, h3, h4⟩ | ⟨j, a, h1, h2, h3, h4⟩)
    · exact ⟨j,a,h1,h2,h3,by rw[h4]; rfl⟩
    · exact ⟨j,a,h1,h2,h3,by rw[h4,Bool.or_true]⟩
  · rintro ⟨j, a, h1, h2, h3, h4⟩
    rw[Bool.or_eq_true] at h4
    rcases h4 with h4 | h4
    · exact .inl ⟨j,a,h1,h2,h3,h4⟩
    · exact .inr ⟨j,a,h1,h2,h3,h4⟩
theorem Qki (hi:i < 2){u:Bool}(hu:[false,true][i]? =some u):Km c sig u (Qfj c sig i) c.2.2.length=Qfj c sig (i+1):=by
  match i,hi with
  | 0,_=>cases hu; rfl
  | 1,_=>cases hu; rfl
theorem QeB (h:a.2.1=sig):JV c sig up a=false:=by unfold JV; simp[h]
theorem QeY (h:¬a.1∈exS sig up c.2.2):JV c sig up a=false:=by
  rw[Qfu] at h
  unfold JV
  rw[Bool.eq_false_iff.2 h]; simp
theorem Qfg (h:a.2.2.2∈exS sig up c.2.2):JV c sig up a=false:=by
  rw[Qfu] at h
  unfold JV
  rw[h]; simp
theorem Qfq (h:¬a.2.1=sig)(h1:a.1∈exS sig up c.2.2)(h2:¬a.2.2.2∈exS sig up c.2.2):JV c sig up a=true:=by
  rw[Qfu] at h1 h2
  unfold JV
  rw[h1,Bool.eq_false_iff.2 h2,decide_eq_false h]; rfl
theorem Qoc:0≤W8 c k∧W8 c k≤(c.2.2.length:Int)*(k:Int):=by
  induction k with
  | zero=>exact ⟨by simp[W8,ZW],by simp[W8,ZW]⟩
  | succ k ih=>
    have e:W8 c (k+1)=W8 c k∨W8 c (k+1)=W8 c k+((Kd c k c.2.2.length).length:Int):=by
      unfold W8 ZW
      rw[List.range_succ,List.filter_append]
      by_cases hp:((c.1[k]?).getD (ByteArray.empty,0)).2=1
      · left; simp[hp]
      · right; simp[hp]
    have hl:(Kd c (k:Int) c.2.2.length).length≤c.2.2.length:=Ut
    have:(c.2.2.length:Int)*((k+1:Nat):Int)=(c.2.2.length:Int)*(k:Int)+(c.2.2.length:Int):=by rw[Int.natCast_add]; simp[Int.mul_add]
    rw[this]
    rcases e with e | e <;> rw[e] <;> constructor <;> omega
theorem Qmk (hs:SgOk c)(hk:k≤c.1.length):0≤W8 c k∧W8 c k≤32000:=by
  have h1:=Qoc (c:=c) (k:=k)
  have h2:=hs.few
  have h3:=hs.sigs.2.2
  have h4:(c.2.2.length:Int)*(k:Int)≤4000*8:=Int.mul_le_mul (by omega) (by omega) (by omega) (by decide)
  exact ⟨h1.1,by omega⟩
theorem QfR {z:Q4}(hx:c.1[k]? =some z)(h:¬z.2=1):W8 c k+((Kd c (k:Int) c.2.2.length).length:Int)=W8 c (k+1):=by
  unfold W8
  rw[← UA hx h,List.map_append]; simp
theorem QjL {z:Q4}(hx:c.1[k]? =some z)(h:z.2=1):W8 c k=W8 c (k+1):=by
  unfold W8
  rw[← HJ hx h]
def KQ (c:DSg)(l:List Int):Int:=(l.map fun s=>((Kd c s c.2.2.length).length:Int)).sum
theorem Qk1 {o:List Int}(hx:o[k]? =some sig):KQ c (o.take k)+((Kd c sig c.2.2.length).length:Int)=KQ c (o.take (k+1)):=by
  unfold KQ
  rw[Za hx,List.map_append]; simp
theorem QjO:∀{l:List Int},0≤KQ c l∧KQ c l≤(c.2.2.length:Int)*(l.length:Int)
  | []=>by simp[KQ]
  | x :: l=>by
    have h1:=QjO (l:=l)
    have hl:(Kd c x c.2.2.length).length≤c.2.2.length:=Ut
    have e:KQ c (x :: l)=((Kd c x c.2.2.length).length:Int)+KQ c l:=by simp[KQ]
    have:(c.2.2.length:Int)*(((x :: l).length:Nat):Int)=(c.2.2.length:Int)*(l.length:Int)+(c.2.2.length:Int):=by rw[List.length_cons,Int.natCast_add]; simp[Int.mul_add]
    rw[this,e]
    constructor <;> omega
theorem QlT (hs:SgOk c){o:List Int}(ho:o.length≤c.1.length):0≤KQ c (o.take k)∧KQ c (o.take k)≤32000:=by
  have h1:=QjO (c:=c) (l:=o.take k)
  have h2:=hs.few
  have h3:=hs.sigs.2.2
  have h5:(o.take k).length≤o.length:=by simp only[List.length_take]; omega
  have h4:(c.2.2.length:Int)*((o.take k).length:Int)≤4000*8:=Int.mul_le_mul (by omega) (by omega) (by omega) (by decide)
  exact ⟨h1.1,by omega⟩
theorem Ql5 {o:List Int}(hk:o.length≤k)(h:o=ZW c.1 c.1.length):KQ c (o.take k)=XM c:=by rw[Zh hk,h]; rfl
theorem nn2 {x y:Int}(h1:0≤x)(h2:0≤y):0≤(((x.toNat ^^^ (x.toNat &&& y.toNat):Nat)):Int):=Int.natCast_nonneg _
end
theorem JW (c:(List (ByteArray×Int))×List ByteArray×(List (Int×Int×Bool×Int)))(s:ByteArray)(hs:SignsOk c s):FC Tryz.prog 198 [(true,[.dat (.sl 145 (.pr .str .int)) c.1, .dat (.sl 9 .str) c.2.1, .dat (.sl 179 (.pr .int (.pr .int (.pr .bool .int)))) c.2.2]),(false,[dS s])] [] 0 (XZ 3 .int (We (Zs s) c.2.2 c.2.2.length)):=by
 have hfw:=hs.2.2.few
 refine QQ Tryz.func198 rfl rfl Tryz.ntmps198 fun O_ hO w0_ N0_ X_ h0_ f0_=> ?_
 refine w_ ?_
 refine lc (Qr 0 (Qb rfl) rfl rfl (Fresh.of rfl) (nlr rfl)) ?_
 iterate 9 refine w_ ?_
 refine AL.fact (QB (x:= .tmp 9) (Qa rfl)) fun hl1=> ?_
 iterate 4 refine w_ ?_
 refine AC.wk (Wk.nilS 1 5 3 .int rfl (Fresh.of rfl) (nlr rfl)) ?_
 refine Qy (fun m_ s_=>∃(k:Nat),k≤c.2.2.length∧m_=c.2.2.length - k∧s_=⟨[(1,lf (dS s)),(4,lf (.val (.slice none 0 0))),(5,lR 2),(9,lf (.dat (.sl 179 (.pr .int (.pr .int (.pr .bool .int)))) c.2.2)),(10,lI (c.2.2.length:Int)),(11,lI (k:Int))],[(2,some (.arr 3 .int (We (Zs s) c.2.2 k)))]⟩) ⟨0,Nat.zero_le _,rfl,rfl⟩ ?_ ?_
 · exact Wk.of [(2,1)] rfl ⟨rfl,rfl,rfl,rfl,rfl,rfl,trivial⟩ ⟨(Qv (rfl)),trivial⟩ rfl rfl
 rintro m_ s_ ⟨k,hk2,hm3,rfl⟩
 have hnl:=Ut (f:=Zs s) (as_:=c.2.2) (k:=k)
 iterate 4 refine w_ ?_
 cases hb4:(decide ((k:Int) < (c.2.2.length:Int)))
 ·have hb4':=of_decide_eq_false hb4
  refine w_ ?_
  refine QA ?_
  refine (?_:AC _ _ _ _ _)
  iterate 4 refine w_ ?_
  refine Qe ?_
  subst hO
  refine ZC (e:= .int) (xs:=(We (Zs s) c.2.2 k)) (Qd rfl (Qc rfl)) rfl ?_
  (congr 1; omega)
 ·have hb4':=of_decide_eq_true hb4
  iterate 6 refine w_ ?_
  obtain ⟨ar,hx6⟩:∃z,c.2.2[k]? =some z:=⟨_,List.getElem?_eq_getElem (by omega)⟩
  have hat:=hs.at_ (List.mem_of_getElem? hx6)
  refine lc (Qm (Qa rfl) (Qa rfl) Q9 QJ rfl (by omega) hx6) ?_
  refine w_ ?_
  refine lc (Qw 3 (.pr .int (.pr .int (.pr .bool .int))) Zq rfl rfl (Fresh.of rfl) (nlr rfl)) ?_
  refine w_ ?_
  refine lc (Qf (Qa rfl) rfl (Qb rfl) rfl QJ rfl) ?_
  iterate 4 refine w_ ?_
  refine lc (Qh (Wy s ar (by omega) (by omega)) J0 ⟨_,_,rfl,(Qb rfl),⟨_,_,rfl,(Qb rfl),rfl⟩⟩ rfl rfl) ?_
  refine w_ ?_
  cases hb7:(Zs s ar)
  ·refine w_ ?_
   refine AC.skip ?_
   refine (?_:AC _ _ _ _ _)
   iterate 3 refine w_ ?_
   refine Qj<|QS ⟨k+1,by omega,rfl,rfl⟩ (by omega) ?_
   exact Wk.of [(2,2)] rfl ⟨rfl,rfl,rfl,rfl,rfl,rfl,trivial⟩ ⟨(Qv (by first | exact Vz hx6 (by assumption) | exact WR hx6 (by assumption))),trivial⟩ rfl rfl
  ·iterate 4 refine w_ ?_
   refine lc (Qk 4 (e:= .int) QO QD Xl rfl ⟨_,_,rfl,(Qb rfl),rfl⟩ (List.all_eq_true.1 rfl) ⟨_,_,_,_,rfl,⟨rfl,rfl⟩,⟨rfl,rfl⟩,rfl⟩ (by decide) rfl rfl (Fresh.of rfl) (nlr rfl))<|lc (Q0 5 (Qa rfl) rfl (Qa rfl) rfl rfl QO WX (by first | omega | (simp only[List.length_append,List.length_map,List.length_take,List.length_cons,List.length_nil]; omega) | (simp only[List.length_append,List.length_drop,List.length_take,List.length_cons,List.length_nil]; omega)) rfl (Fresh.of rfl) (nlr rfl)) ?_
   refine w_ ?_
   refine Qj ?_
   refine (?_:AC _ _ _ _ _)
   iterate 3 refine w_ ?_
   refine Qj<|QS ⟨k+1,by omega,rfl,rfl⟩ (by omega) ?_
   exact Wk.of [(2,5)] rfl ⟨rfl,rfl,rfl,rfl,rfl,rfl,trivial⟩ ⟨(Qv (by first | exact Vz hx6 (by assumption) | exact WR hx6 (by assumption))),trivial⟩ rfl rfl
theorem Qbk (c:(List (ByteArray×Int))×List ByteArray×(List (Int×Int×Bool×Int)))(s:ByteArray)(hs:SignsOk c s):FC Tryz.prog 124 [(true,[.dat (.sl 145 (.pr .str .int)) c.1, .dat (.sl 9 .str) c.2.1, .dat (.sl 179 (.pr .int (.pr .int (.pr .bool .int)))) c.2.2]),(false,[dS s])] [] 0 (Zy (lB (!KN c s))):=by
 have hfw:=hs.2.2.few
 refine QQ Tryz.func124 rfl rfl Tryz.ntmps124 fun O_ hO w0_ N0_ X_ h0_ f0_=> ?_
 refine w_ ?_
 refine lc (Qr 0 (Qb rfl) rfl rfl (Fresh.of rfl) (nlr rfl)) ?_
 iterate 6 refine w_ ?_
 refine lc (Qh (JW c s hs).frozen Qhb ⟨_,_,rfl,(Qb rfl),⟨_,_,rfl,(Qb rfl),rfl⟩⟩ rfl rfl)<|AL.fact (QB (x:= .tmp 10) (Qa rfl)) fun hl1=> ?_
 iterate 4 refine w_ ?_
 refine Qy (fun m_ s_=>∃(k:Nat),k≤(We (Zs s) c.2.2 c.2.2.length).length∧m_=(We (Zs s) c.2.2 c.2.2.length).length - k∧(∀j,j < k→∀v,(We (Zs s) c.2.2 c.2.2.length)[j]? =some v→∀a,c.2.2[v.toNat]? =some a→XD c a.2.1=false)∧s_=⟨[(2,lP 0 0),(10,lf (.dat (.sl 3 .int) (We (Zs s) c.2.2 c.2.2.length))),(11,lI ((We (Zs s) c.2.2 c.2.2.length).length:Int)),(12,lI (k:Int))],[(0,some (.box 59 [.dat (.sl 145 (.pr .str .int)) c.1, .dat (.sl 9 .str) c.2.1, .dat (.sl 179 (.pr .int (.pr .int (.pr .bool .int)))) c.2.2]))]⟩) ⟨0,Nat.zero_le _,rfl,(fun j hj=>absurd hj (Nat.not_lt_zero j)),rfl⟩ ?_ ?_
 · exact Wk.of [(0,0)] rfl ⟨rfl,rfl,rfl,rfl,trivial⟩ ⟨rfl,trivial⟩ rfl rfl
 rintro m_ s_ ⟨k,hk2,hm3,hno,rfl⟩
 iterate 4 refine w_ ?_
 cases hb4:(decide ((k:Int) < ((We (Zs s) c.2.2 c.2.2.length).length:Int)))
 ·have hb4':=of_decide_eq_false hb4
  refine w_ ?_
  refine QA ?_
  refine (?_:AC _ _ _ _ _)
  iterate 3 refine w_ ?_
  refine Qe ?_
  subst hO
  have e5:(true:Bool)=(!KN c s):=by
   first | exact QmT hno (by omega)
  exact Qg (Qd rfl (Qc rfl)) ((congrArg (fun z_=>lB z_) e5)) rfl
 ·have hb4':=of_decide_eq_true hb4
  iterate 5 refine w_ ?_
  obtain ⟨v,hx7⟩:∃z,(We (Zs s) c.2.2 c.2.2.length)[k]? =some z:=⟨_,List.getElem?_eq_getElem (by omega)⟩
  obtain ⟨jv,av,hjv,hjk,hja,hjd⟩:=QgN hx7
  refine lc (Qm (Qa rfl) (Qa rfl) QO QD rfl (by omega) hx7) ?_
  refine w_ ?_
  refine AL.fact (Qs (x:= .tmp 15) (Qa rfl)) fun hi8=> ?_
  iterate 6 refine w_ ?_
  obtain ⟨ar,hx10⟩:∃z,c.2.2[(v).toNat]? =some z:=⟨_,List.getElem?_eq_getElem (by omega)⟩
  have hlab:=(hs.2.2.arcs _ (List.mem_of_getElem? hx10)).2.2.1
  have hslt:ar.2.1 < (c.1.length:Int):=VK hlab
  refine lc (Qm (Qa rfl) (Qa rfl) Q9 QJ rfl (by omega) hx10) ?_
  iterate 2 refine w_ ?_
  refine AL.fact (Qs (x:= .tmp 21) (Qa rfl)) fun hi11=> ?_
  iterate 6 refine w_ ?_
  cases hb12:(decide (0≤ar.2.1))
  ·have hb12':=of_decide_eq_false hb12
   iterate 10 refine w_ ?_
   refine AC.skip ?_
   refine (?_:AC _ _ _ _ _)
   iterate 3 refine w_ ?_
   refine Qj<|QS ⟨k+1,by omega,rfl,(YW hno hx7 (fun a ha=>by cases (hx10).symm.trans ha; first | exact (QeS (by omega)).symm | exact (QeR (by omega) hsg).symm.trans (by assumption))),rfl⟩ (by omega) ?_
   exact Wk.of [(0,0)] rfl ⟨rfl,rfl,rfl,rfl,trivial⟩ ⟨rfl,trivial⟩ rfl rfl
  ·have hb12':=of_decide_eq_true hb12
   iterate 3 refine w_ ?_
   obtain ⟨sg,hx14⟩:∃z,c.1[(ar.2.1).toNat]? =some z:=⟨_,List.getElem?_eq_getElem (by omega)⟩
   have hsg:=hx14
   refine lgy rfl rfl (Qm (Qa rfl) (Qa rfl) Yh Yj rfl (by omega) hx14) ?_
   iterate 5 refine w_ ?_
   cases hb15:(decide (sg.2=1))
   ·have hb15':=of_decide_eq_false hb15
    refine w_ ?_
    refine AC.skip ?_
    refine (?_:AC _ _ _ _ _)
    iterate 3 refine w_ ?_
    refine Qj<|QS ⟨k+1,by omega,rfl,(YW hno hx7 (fun a ha=>by cases (hx10).symm.trans ha; first | exact (QeS (by omega)).symm | exact (QeR (by omega) hsg).symm.trans (by assumption))),rfl⟩ (by omega) ?_
    exact Wk.of [(0,0)] rfl ⟨rfl,rfl,rfl,rfl,trivial⟩ ⟨rfl,trivial⟩ rfl rfl
   ·have hb15':=of_decide_eq_true hb15
    iterate 4 refine w_ ?_
    refine Qe ?_
    subst hO
    have e16:(false:Bool)=(!KN c s):=by
     exact Qli hx7 hx10 ((QeR (by omega) hsg).symm.trans (by assumption))
    exact Qg (Qd rfl (Qc rfl)) ((congrArg (fun z_=>lB z_) e16)) rfl
theorem Qbs (a:Int×Int×Bool×Int)(signs:ByteArray)(c:(List (ByteArray×Int))×List ByteArray×(List (Int×Int×Bool×Int)))(h1:0≤a.1∧a.1 < (signs.size:Int))(h2:0≤a.2.2.2∧a.2.2.2 < (signs.size:Int))(h3:a.2.1 < (c.1.length:Int)):FC Tryz.prog 134 [(true,[dI a.1,dI a.2.1,dB a.2.2.1,dI a.2.2.2]),(false,[.ptr 0 0]),(false,[.ptr 1 0])] [(0,some (.box 9 [dS signs])),(1,some (.box 59 [.dat (.sl 145 (.pr .str .int)) c.1, .dat (.sl 9 .str) c.2.1, .dat (.sl 179 (.pr .int (.pr .int (.pr .bool .int)))) c.2.2]))] 2 (Is (lB (Zs signs a&&XD c a.2.1)) [(0,some (.box 9 [dS signs])),(1,some (.box 59 [.dat (.sl 145 (.pr .str .int)) c.1, .dat (.sl 9 .str) c.2.1, .dat (.sl 179 (.pr .int (.pr .int (.pr .bool .int)))) c.2.2]))]):=by
 refine QQ Tryz.func134 rfl rfl Tryz.ntmps134 fun O_ hO w0_ N0_ X_ h0_ f0_=> ?_
 refine AC.fact (Q3 (x:= .tmp 0) (i:=0) (Qb rfl) rfl) fun hi1=>AC.fact (Q3 (x:= .tmp 0) (i:=1) (Qb rfl) rfl) fun hi2=>AC.fact (Q3 (x:= .tmp 0) (i:=3) (Qb rfl) rfl) fun hi3=> ?_
 refine w_ ?_
 refine lc (Qr 2 (Qb rfl) rfl rfl (Fresh.of rfl) (nlr rfl)) ?_
 iterate 5 refine w_ ?_
 refine lc (Qh (Xm a signs h1 h2) UQ ⟨_,_,rfl,(Qb rfl),⟨_,_,rfl,(Qb rfl),rfl⟩⟩ rfl rfl) ?_
 refine w_ ?_
 cases hb4:(Zs signs a)
 ·iterate 7 refine w_ ?_
  refine Qe ?_
  subst hO
  have e5:(false:Bool)=(Zs signs a&&XD c a.2.1):=by
   (simp_all; done)
  exact Q2 _ _ [(0,0),(1,1)] (Qd rfl (Qc rfl)) ((congrArg (fun z_=>lB z_) e5)) ⟨rfl,rfl,trivial⟩ rfl rfl
 ·iterate 3 refine w_ ?_
  refine lgy rfl rfl (Qh (XT c a.2.1 h3) UL ⟨_,_,rfl,(Qb rfl),⟨_,_,rfl,(Qb rfl),rfl⟩⟩ rfl rfl) ?_
  iterate 3 refine w_ ?_
  refine Qe ?_
  subst hO
  have e6:(XD c a.2.1:Bool)=(Zs signs a&&XD c a.2.1):=by
   (simp_all; done)
  exact Q2 _ _ [(0,0),(1,1)] (Qd rfl (Qc rfl)) ((congrArg (fun z_=>lB z_) e6)) ⟨rfl,rfl,trivial⟩ rfl rfl
theorem Kc (l:List (Int×Int×Bool×Int))(signs:ByteArray)(c:(List (ByteArray×Int))×List ByteArray×(List (Int×Int×Bool×Int)))(ht:∀a∈l,((0≤a.1∧a.1 < (signs.size:Int))∧0≤a.2.2.2∧a.2.2.2 < (signs.size:Int))∧a.2.1 < (c.1.length:Int)):FC Tryz.prog 212 [(false,[.dat (.sl 179 (.pr .int (.pr .int (.pr .bool .int)))) l]),(false,[.clo 134 [0,1]])] [(0,some (.box 9 [dS signs])),(1,some (.box 59 [.dat (.sl 145 (.pr .str .int)) c.1, .dat (.sl 9 .str) c.2.1, .dat (.sl 179 (.pr .int (.pr .int (.pr .bool .int)))) c.2.2]))] 2 (Is (lI (ZJ (fun a:DAr=>Zs signs a&&XD c a.2.1) l)) [(0,some (.box 9 [dS signs])),(1,some (.box 59 [.dat (.sl 145 (.pr .str .int)) c.1, .dat (.sl 9 .str) c.2.1, .dat (.sl 179 (.pr .int (.pr .int (.pr .bool .int)))) c.2.2]))]):=by
 refine QQ Tryz.func212 rfl rfl Tryz.ntmps212 fun O_ hO w0_ N0_ X_ h0_ f0_=> ?_
 iterate 6 refine w_ ?_
 refine AL.fact (QB (x:= .tmp 6) (Qa rfl)) fun hl1=> ?_
 iterate 4 refine w_ ?_
 refine Qy (fun m_ s_=>∃(k:Nat),k≤l.length∧m_=l.length - k∧(NoneTo (fun a:DAr=>Zs signs a&&XD c a.2.1) l k)∧s_=⟨[(0,lf (.dat (.sl 179 (.pr .int (.pr .int (.pr .bool .int)))) l)),(1,lf (.clo 134 [0,1])),(7,lI (l.length:Int)),(8,lI (k:Int))],[(0,some (.box 9 [dS signs])),(1,some (.box 59 [.dat (.sl 145 (.pr .str .int)) c.1, .dat (.sl 9 .str) c.2.1, .dat (.sl 179 (.pr .int (.pr .int (.pr .bool .int)))) c.2.2]))]⟩) ⟨0,Nat.zero_le _,rfl,NoneTo.zero,rfl⟩ ?_ ?_
 · exact Wk.of [(0,0),(1,1)] rfl ⟨rfl,rfl,rfl,rfl,trivial⟩ ⟨rfl,rfl,trivial⟩ rfl rfl
 rintro m_ s_ ⟨k,hk2,hm3,hno,rfl⟩
 iterate 4 refine w_ ?_
 cases hb4:(decide ((k:Int) < (l.length:Int)))
 ·have hb4':=of_decide_eq_false hb4
  refine w_ ?_
  refine QA ?_
  refine (?_:AC _ _ _ _ _)
  iterate 3 refine w_ ?_
  refine Qe ?_
  subst hO
  have e5:((-1):Int)=(ZJ (fun a:DAr=>Zs signs a&&XD c a.2.1) l):=by
   first | exact (hno.no (by omega)).symm
  exact Q2 _ _ [(0,0),(1,1)] (Qd rfl (Qc rfl)) ((congrArg (fun z_=>lI z_) e5)) ⟨rfl,rfl,trivial⟩ rfl rfl
 ·have hb4':=of_decide_eq_true hb4
  iterate 12 refine w_ ?_
  obtain ⟨x6,hx7⟩:∃z,l[k]? =some z:=⟨_,List.getElem?_eq_getElem (by omega)⟩
  have htl:=ht _ (List.mem_of_getElem? hx7)
  refine lc (Qm (Qa rfl) (Qa rfl) Q9 QJ rfl (by omega) hx7) ?_
  refine w_ ?_
  refine lc (Xp (args0:=[(true,[dI x6.1,dI x6.2.1,dB x6.2.2.1,dI x6.2.2.2])]) (caps:=[0,1]) 2 [(0,0),(1,1)] (Qbs x6 signs c htl.1.1 htl.1.2 htl.2) QhJ rfl (Qa rfl) rfl rfl ⟨_,_,rfl,(Qb rfl),rfl⟩ ⟨rfl,rfl,trivial⟩ rfl ⟨trivial,trivial,trivial⟩ (nlr rfl)) ?_
  refine w_ ?_
  cases hb8:(Zs signs x6&&XD c x6.2.1)
  ·refine w_ ?_
   refine AC.skip ?_
   refine (?_:AC _ _ _ _ _)
   iterate 3 refine w_ ?_
   refine Qj<|QS ⟨k+1,by omega,rfl,hno.step hx7 (by assumption),rfl⟩ (by omega) ?_
   exact Wk.of [(0,0),(1,1)] rfl ⟨rfl,rfl,rfl,rfl,trivial⟩ ⟨rfl,rfl,trivial⟩ rfl rfl
  ·iterate 5 refine w_ ?_
   refine Qe ?_
   subst hO
   have e9:((k:Int):Int)=(ZJ (fun a:DAr=>Zs signs a&&XD c a.2.1) l):=by
    exact (hno.at hx7 (by assumption)).symm
   exact Q2 _ _ [(0,0),(1,1)] (Qd rfl (Qc rfl)) ((congrArg (fun z_=>lI z_) e9)) ⟨rfl,rfl,trivial⟩ rfl rfl
theorem VH (l:List (Int×Int×Bool×Int))(signs:ByteArray)(c:(List (ByteArray×Int))×List ByteArray×(List (Int×Int×Bool×Int)))(ht:∀a∈l,((0≤a.1∧a.1 < (signs.size:Int))∧0≤a.2.2.2∧a.2.2.2 < (signs.size:Int))∧a.2.1 < (c.1.length:Int)):FC Tryz.prog 133 [(false,[.dat (.sl 179 (.pr .int (.pr .int (.pr .bool .int)))) l]),(false,[.clo 134 [0,1]])] [(0,some (.box 9 [dS signs])),(1,some (.box 59 [.dat (.sl 145 (.pr .str .int)) c.1, .dat (.sl 9 .str) c.2.1, .dat (.sl 179 (.pr .int (.pr .int (.pr .bool .int)))) c.2.2]))] 2 (Is (lB (l.any (fun a:DAr=>Zs signs a&&XD c a.2.1))) [(0,some (.box 9 [dS signs])),(1,some (.box 59 [.dat (.sl 145 (.pr .str .int)) c.1, .dat (.sl 9 .str) c.2.1, .dat (.sl 179 (.pr .int (.pr .int (.pr .bool .int)))) c.2.2]))]):=by
 refine QQ Tryz.func133 rfl rfl Tryz.ntmps133 fun O_ hO w0_ N0_ X_ h0_ f0_=> ?_
 iterate 6 refine w_ ?_
 refine lc (QP 2 [(0,0),(1,1)] (Kc l signs c ht) JH ⟨_,_,rfl,(Qb rfl),⟨_,_,rfl,(Qb rfl),rfl⟩⟩ ⟨rfl,rfl,trivial⟩ rfl ⟨trivial,trivial,trivial⟩ (nlr rfl)) ?_
 iterate 3 refine w_ ?_
 refine Qe ?_
 subst hO
 have e1:(decide (0≤(ZJ (fun a:DAr=>Zs signs a&&XD c a.2.1) l)):Bool)=(l.any (fun a:DAr=>Zs signs a&&XD c a.2.1)):=by
  exact Ua _ _
 exact Q2 _ _ [(0,0),(1,1)] (Qd rfl (Qc rfl)) ((congrArg (fun z_=>lB z_) e1)) ⟨rfl,rfl,trivial⟩ rfl rfl
theorem Hm (c:(List (ByteArray×Int))×List ByteArray×(List (Int×Int×Bool×Int)))(sig:Int)(hs:SgOk c)(hg:0≤sig∧sig≤7):FC Tryz.prog 215 [(true,[.dat (.sl 145 (.pr .str .int)) c.1, .dat (.sl 9 .str) c.2.1, .dat (.sl 179 (.pr .int (.pr .int (.pr .bool .int)))) c.2.2]),(false,[dI sig])] [] 0 (XZ 3 .int (Kd c sig c.2.2.length)):=by
 have hr:∀a∈c.2.2,InR c.2.1.length a:=fun a ha=>XG (hs.arcs a ha)
 have hn3:=hs.some_
 have hfw:=hs.few
 have hs8:=hs.sigs.2.2
 have hml:=H9 (n:=c.2.1.length) (as_:=c.2.2)
 refine QQ Tryz.func215 rfl rfl Tryz.ntmps215 fun O_ hO w0_ N0_ X_ h0_ f0_=> ?_
 refine AC.fact (Qs (x:= .tmp 1) (Qa rfl)) fun hi1=> ?_
 refine w_ ?_
 refine lc (Qr 0 (Qb rfl) rfl rfl (Fresh.of rfl) (nlr rfl)) ?_
 iterate 3 refine w_ ?_
 refine lc (Qk 1 (e:= .int) QO QD Xl rfl rfl (List.all_eq_true.1 rfl) ⟨rfl,rfl⟩ (by decide) rfl rfl (Fresh.of rfl) (nlr rfl)) ?_
 refine w_ ?_
 refine lc (Qh (Vw c hs.w).frozen QbU ⟨_,_,rfl,(Qb rfl),rfl⟩ rfl rfl) ?_
 iterate 7 refine w_ ?_
 refine AL.fact (QB (x:= .tmp 13) (Qa rfl)) fun hl2=> ?_
 iterate 4 refine w_ ?_
 refine Qy (fun m_ s_=>∃(k:Nat),k≤c.2.2.length∧m_=c.2.2.length - k∧s_=⟨[(1,lI sig),(4,lf (.val (.slice none 0 0))),(5,lR 2),(6,lf (.dat (.sl 3 .int) (Xr c.2.1.length c.2.2))),(13,lf (.dat (.sl 179 (.pr .int (.pr .int (.pr .bool .int)))) c.2.2)),(14,lI (c.2.2.length:Int)),(15,lI (k:Int))],[(2,some (.arr 3 .int (Kd c sig k)))]⟩) ⟨0,Nat.zero_le _,rfl,rfl⟩ ?_ ?_
 · exact Wk.of [(2,1)] rfl ⟨rfl,rfl,rfl,rfl,rfl,rfl,rfl,trivial⟩ ⟨(Qv (rfl)),trivial⟩ rfl rfl
 rintro m_ s_ ⟨k,hk3,hm4,rfl⟩
 have hnl:=Ut (f:=QhP c sig) (as_:=c.2.2) (k:=k)
 have hnl2:(Kd c sig k).length≤k:=hnl
 iterate 4 refine w_ ?_
 cases hb5:(decide ((k:Int) < (c.2.2.length:Int)))
 ·have hb5':=of_decide_eq_false hb5
  refine w_ ?_
  refine QA ?_
  refine (?_:AC _ _ _ _ _)
  iterate 4 refine w_ ?_
  refine Qe ?_
  subst hO
  refine ZC (e:= .int) (xs:=(Kd c sig k)) (Qd rfl (Qc rfl)) rfl ?_
  (congr 1; omega)
 ·have hb5':=of_decide_eq_true hb5
  iterate 6 refine w_ ?_
  obtain ⟨ar,hx7⟩:∃z,c.2.2[k]? =some z:=⟨_,List.getElem?_eq_getElem (by omega)⟩
  have hain:=hr _ (List.mem_of_getElem? hx7)
  obtain ⟨⟨ha1,ha2⟩,ha3,ha4⟩:=hain
  have hlab:=(hs.arcs _ (List.mem_of_getElem? hx7)).2.2.1
  have hslt:ar.2.1 < (c.1.length:Int):=VK hlab
  refine lc (Qm (Qa rfl) (Qa rfl) Q9 QJ rfl (by omega) hx7) ?_
  refine w_ ?_
  refine lc (Qw 3 (.pr .int (.pr .int (.pr .bool .int))) Zq rfl rfl (Fresh.of rfl) (nlr rfl)) ?_
  refine w_ ?_
  refine lc (Qf (Qa rfl) rfl (Qb rfl) rfl QJ rfl) ?_
  refine w_ ?_
  cases hb8:(!decide (ar.2.1=sig))
  ·have hb8':(ar.2.1=sig):=Ze hb8
   refine dw [io 20 (lP 3 1),io 21 (lI ar.2.1),io 22 (lI sig),io 23 (lB false),io 24 (lB false),io 25 (lf (.val undef)),io 26 (lf (.val undef)),io 27 (lf (.val undef)),io 28 (lf (.val undef)),io 29 (lf (.val undef)),io 30 (lf (.val undef)),io 31 (lf (.val undef)),io 32 (lf (.val undef)),io 33 (lf (.val undef)),io 34 (lf (.val undef)),io 35 (lf (.val undef)),io 36 (lf (.val undef)),io 37 (lf (.val undef)),io 38 (lf (.val undef)),io 39 (lf (.val undef)),io 40 (lf (.val undef)),io 41 (lB false)] [0,1,0,7,15,31,31,95,255,511,31,31,2079,7199,15391,32767,31,65567,262143,524287,1048575,2097151] mixed rfl (by kernel_rfl) ⟨dxf ZN rfl rfl rfl,dxl QD rfl rfl rfl rfl rfl,dxm rfl rfl,fun _ h_=>ac (QZ (QfI (Qlk hb8)) (Hb (h_.v rfl) (h_.v rfl) rfl)) rfl,dxm rfl rfl,dxo rfl rfl rfl,dxo rfl rfl rfl,dxo rfl rfl rfl,dxo rfl rfl rfl,dxo rfl rfl rfl,dxo rfl rfl rfl,dxo rfl rfl rfl,dxo rfl rfl rfl,dxo rfl rfl rfl,dxo rfl rfl rfl,dxo rfl rfl rfl,dxo rfl rfl rfl,dxo rfl rfl rfl,dxo rfl rfl rfl,dxo rfl rfl rfl,dxo rfl rfl rfl,fun _ h_=>ac (QM (h_.v rfl) (Evl.ev QU) rfl) rfl,⟨⟩⟩ ?_
   refine w_ ?_
   refine AC.skip ?_
   refine (?_:AC _ _ _ _ _)
   iterate 3 refine w_ ?_
   refine Qj<|QS ⟨k+1,by omega,rfl,rfl⟩ (by omega) ?_
   exact Wk.of [(2,2)] rfl ⟨rfl,rfl,rfl,rfl,rfl,rfl,rfl,trivial⟩ ⟨(Qv (by first | exact WR hx7 (Qfh (by assumption)) | exact WR hx7 ((K3 (fun a ha=>(hr a ha).1.1) ⟨⟨ha1,ha2⟩,ha3,ha4⟩ hg.1 (by assumption) hx hy).symm.trans (by assumption)) | exact Vz hx7 ((K3 (fun a ha=>(hr a ha).1.1) ⟨⟨ha1,ha2⟩,ha3,ha4⟩ hg.1 (by assumption) hx hy).symm.trans (by assumption)))),trivial⟩ rfl rfl
  ·have hb8':¬(ar.2.1=sig):=Zp hb8
   obtain ⟨x,hx10⟩:∃z,(Xr c.2.1.length c.2.2)[(ar.1).toNat]? =some z:=⟨_,List.getElem?_eq_getElem (by omega)⟩
   have hx:=hx10
   have hnx:=HB _ (List.mem_of_getElem? hx10)
   obtain ⟨y,hx12⟩:∃z,(Xr c.2.1.length c.2.2)[(ar.2.2.2).toNat]? =some z:=⟨_,List.getElem?_eq_getElem (by omega)⟩
   have hy:=hx12
   have hny:=HB _ (List.mem_of_getElem? hx12)
   refine dw [io 20 (lP 3 1),io 21 (lI ar.2.1),io 22 (lI sig),io 23 (lB true),io 24 (lB true),io 25 (lf (.dat (.sl 3 .int) (Xr c.2.1.length c.2.2))),io 26 (lP 3 0),io 27 (lI ar.1),io 28 (lf (.elt .int x 0)),io 29 (lI x),io 30 (lf (.dat (.sl 3 .int) (Xr c.2.1.length c.2.2))),io 31 (lP 3 3),io 32 (lI ar.2.2.2),io 33 (lf (.elt .int y 0)),io 34 (lI y),io 35 (lI ((x.toNat ^^^ (x.toNat &&& y.toNat):Nat):Int)),io 36 (lI sig),io 37 (lI (2*sig)),io 38 (lI (((x.toNat ^^^ (x.toNat &&& y.toNat):Nat):Int) / 2 ^ (2*sig).toNat)),io 39 (lI (((((x.toNat ^^^ (x.toNat &&& y.toNat):Nat):Int) / 2 ^ (2*sig).toNat).toNat &&& (3:Int).toNat:Nat):Int)),io 40 (lB (!decide ((((((x.toNat ^^^ (x.toNat &&& y.toNat):Nat):Int) / 2 ^ (2*sig).toNat).toNat &&& (3:Int).toNat:Nat):Int)=0))),io 41 (lB (!decide ((((((x.toNat ^^^ (x.toNat &&& y.toNat):Nat):Int) / 2 ^ (2*sig).toNat).toNat &&& (3:Int).toNat:Nat):Int)=0)))] [0,1,0,7,15,31,31,95,255,511,31,31,2079,7199,15391,32767,31,65567,262143,524287,1048575,2097151] mixed rfl (by kernel_rfl) ⟨dxf ZN rfl rfl rfl,dxl QD rfl rfl rfl rfl rfl,dxm rfl rfl,fun _ h_=>ac (QZ (QfI (Qlk hb8)) (Hb (h_.v rfl) (h_.v rfl) rfl)) rfl,dxm rfl rfl,fun _ h_=>day rfl (h_.k rfl) (QF (h_.k rfl) rfl) rfl,fun _ h_=>day rfl (h_.k rfl) (Qz (h_.v rfl) Zr (by rw[(h_.en 3 rfl)]; rfl) rfl) rfl,fun _ h_=>day rfl (h_.k rfl) (QI (h_.v rfl) (h_.n 3 rfl) QD rfl rfl) rfl,fun _ h_=>day rfl (h_.k rfl) (Qm (h_.v rfl) (h_.v rfl) QO QD rfl (by omega) hx10) rfl,fun _ h_=>day rfl (h_.k rfl) (Zv (h_.v rfl) QD rfl rfl) rfl,fun _ h_=>day rfl (h_.k rfl) (QF (h_.k rfl) rfl) rfl,fun _ h_=>day rfl (h_.k rfl) (Qz (h_.v rfl) Zg (by rw[(h_.en 3 rfl)]; rfl) rfl) rfl,fun _ h_=>day rfl (h_.k rfl) (QI (h_.v rfl) (h_.n 3 rfl) QD rfl rfl) rfl,fun _ h_=>day rfl (h_.k rfl) (Qm (h_.v rfl) (h_.v rfl) QO QD rfl (by omega) hx12) rfl,fun _ h_=>day rfl (h_.k rfl) (Zv (h_.v rfl) QD rfl rfl) rfl,fun _ h_=>day rfl (h_.k rfl) (Qf2 (h_.v rfl) (h_.v rfl) rfl (by first | exact hnx | exact hny | exact Int.ediv_nonneg (nn2 hnx hny) (Int.pow_nonneg (by decide)) | omega | exact Int.natCast_nonneg _) (by first | exact hnx | exact hny | exact Int.ediv_nonneg (nn2 hnx hny) (Int.pow_nonneg (by decide)) | omega | exact Int.natCast_nonneg _)) rfl,fun _ h_=>day rfl (h_.k rfl) (QF (h_.k rfl) rfl) rfl,fun _ h_=>day rfl (h_.k rfl) (VF (QE rfl) (h_.v rfl) rfl (by omega)) rfl,fun _ h_=>day rfl (h_.k rfl) (QbV (h_.v rfl) (h_.v rfl) rfl (by omega) (by first | exact hnx | exact hny | exact Int.ediv_nonneg (nn2 hnx hny) (Int.pow_nonneg (by decide)) | omega | exact Int.natCast_nonneg _)) rfl,fun _ h_=>day rfl (h_.k rfl) (QcK (h_.v rfl) (QE rfl) rfl (by first | exact hnx | exact hny | exact Int.ediv_nonneg (nn2 hnx hny) (Int.pow_nonneg (by decide)) | omega | exact Int.natCast_nonneg _) (by omega)) rfl,fun _ h_=>day rfl (h_.k rfl) (Hb (h_.v rfl) (QE rfl) rfl) rfl,fun _ h_=>ac (QV (h_.v rfl) (h_.w rfl) rfl) rfl,⟨⟩⟩ ?_
   cases hb13:(!decide ((((((x.toNat ^^^ (x.toNat &&& y.toNat):Nat):Int) / 2 ^ (2*sig).toNat).toNat &&& (3:Int).toNat:Nat):Int)=0))
   ·have hb13':((((((x.toNat ^^^ (x.toNat &&& y.toNat):Nat):Int) / 2 ^ (2*sig).toNat).toNat &&& (3:Int).toNat:Nat):Int)=0):=Ze hb13
    refine w_ ?_
    refine AC.skip ?_
    refine (?_:AC _ _ _ _ _)
    iterate 3 refine w_ ?_
    refine Qj<|QS ⟨k+1,by omega,rfl,rfl⟩ (by omega) ?_
    exact Wk.of [(2,2)] rfl ⟨rfl,rfl,rfl,rfl,rfl,rfl,rfl,trivial⟩ ⟨(Qv (by first | exact WR hx7 (Qfh (by assumption)) | exact WR hx7 ((K3 (fun a ha=>(hr a ha).1.1) ⟨⟨ha1,ha2⟩,ha3,ha4⟩ hg.1 (by assumption) hx hy).symm.trans (by assumption)) | exact Vz hx7 ((K3 (fun a ha=>(hr a ha).1.1) ⟨⟨ha1,ha2⟩,ha3,ha4⟩ hg.1 (by assumption) hx hy).symm.trans (by assumption)))),trivial⟩ rfl rfl
   ·have hb13':¬((((((x.toNat ^^^ (x.toNat &&& y.toNat):Nat):Int) / 2 ^ (2*sig).toNat).toNat &&& (3:Int).toNat:Nat):Int)=0):=Zp hb13
    iterate 4 refine w_ ?_
    refine lc (Qk 4 (e:= .int) QO QD Xl rfl ⟨_,_,rfl,(Qb rfl),rfl⟩ (List.all_eq_true.1 rfl) ⟨_,_,_,_,rfl,⟨rfl,rfl⟩,⟨rfl,rfl⟩,rfl⟩ (by decide) rfl rfl (Fresh.of rfl) (nlr rfl))<|lc (Q0 5 (Qa rfl) rfl (Qa rfl) rfl rfl QO WX (by first | omega | (simp only[List.length_append,List.length_map,List.length_take,List.length_cons,List.length_nil]; omega) | (simp only[List.length_append,List.length_drop,List.length_take,List.length_cons,List.length_nil]; omega)) rfl (Fresh.of rfl) (nlr rfl)) ?_
    refine w_ ?_
    refine Qj ?_
    refine (?_:AC _ _ _ _ _)
    iterate 3 refine w_ ?_
    refine Qj<|QS ⟨k+1,by omega,rfl,rfl⟩ (by omega) ?_
    exact Wk.of [(2,5)] rfl ⟨rfl,rfl,rfl,rfl,rfl,rfl,rfl,trivial⟩ ⟨(Qv (by first | exact WR hx7 (Qfh (by assumption)) | exact WR hx7 ((K3 (fun a ha=>(hr a ha).1.1) ⟨⟨ha1,ha2⟩,ha3,ha4⟩ hg.1 (by assumption) hx hy).symm.trans (by assumption)) | exact Vz hx7 ((K3 (fun a ha=>(hr a ha).1.1) ⟨⟨ha1,ha2⟩,ha3,ha4⟩ hg.1 (by assumption) hx hy).symm.trans (by assumption)))),trivial⟩ rfl rfl
theorem VB (c:(List (ByteArray×Int))×List ByteArray×(List (Int×Int×Bool×Int)))(hs:SgOk c):FC Tryz.prog 139 [(true,[.dat (.sl 145 (.pr .str .int)) c.1, .dat (.sl 9 .str) c.2.1, .dat (.sl 179 (.pr .int (.pr .int (.pr .bool .int)))) c.2.2])] [] 0 (Zy (lI (XM c))):=by
 have hr:∀a∈c.2.2,InR c.2.1.length a:=fun a ha=>XG (hs.arcs a ha)
 have hn3:=hs.some_
 have hfw:=hs.few
 have hs8:=hs.sigs.2.2
 have hol:=QaD (ss:=c.1) (k:=c.1.length)
 refine QQ Tryz.func139 rfl rfl Tryz.ntmps139 fun O_ hO w0_ N0_ X_ h0_ f0_=> ?_
 refine w_ ?_
 refine lc (Qr 0 (Qb rfl) rfl rfl (Fresh.of rfl) (nlr rfl)) ?_
 iterate 8 refine w_ ?_
 refine lc (Qh (Ke c (by omega)).frozen Qc8 ⟨_,_,rfl,(Qb rfl),rfl⟩ rfl rfl)<|AL.fact (QB (x:= .tmp 7) (Qa rfl)) fun hl1=> ?_
 iterate 4 refine w_ ?_
 refine Qy (fun m_ s_=>∃(k:Nat),k≤(ZW c.1 c.1.length).length∧m_=(ZW c.1 c.1.length).length - k∧s_=⟨[(1,lP 0 0),(2,lI 0),(3,lI (KQ c ((ZW c.1 c.1.length).take k))),(7,lf (.dat (.sl 3 .int) (ZW c.1 c.1.length))),(8,lI ((ZW c.1 c.1.length).length:Int)),(9,lI (k:Int))],[(0,some (.box 59 [.dat (.sl 145 (.pr .str .int)) c.1, .dat (.sl 9 .str) c.2.1, .dat (.sl 179 (.pr .int (.pr .int (.pr .bool .int)))) c.2.2]))]⟩) ⟨0,Nat.zero_le _,rfl,rfl⟩ ?_ ?_
 · exact Wk.of [(0,0)] rfl ⟨rfl,rfl,(show some (lI 0)=some (lI (KQ c ((ZW c.1 c.1.length).take 0))) from congrArg (fun z_=>some (lI z_)) (rfl)),rfl,rfl,rfl,trivial⟩ ⟨rfl,trivial⟩ rfl rfl
 rintro m_ s_ ⟨k,hk3,hm4,rfl⟩
 have hds:=QlT (k:=k) hs hol
 iterate 4 refine w_ ?_
 cases hb5:(decide ((k:Int) < ((ZW c.1 c.1.length).length:Int)))
 ·have hb5':=of_decide_eq_false hb5
  refine w_ ?_
  refine QA ?_
  refine (?_:AC _ _ _ _ _)
  iterate 4 refine w_ ?_
  refine Qe ?_
  subst hO
  have e6:(KQ c ((ZW c.1 c.1.length).take k):Int)=(XM c):=by
   exact Ql5 (by omega) rfl
  exact Qg (Qd rfl (Qc rfl)) ((congrArg (fun z_=>lI z_) e6)) rfl
 ·have hb5':=of_decide_eq_true hb5
  iterate 5 refine w_ ?_
  obtain ⟨sg,hx8⟩:∃z,(ZW c.1 c.1.length)[k]? =some z:=⟨_,List.getElem?_eq_getElem (by omega)⟩
  obtain ⟨jo,hjo,hjl,_⟩:=Ul.1 (List.mem_of_getElem? hx8)
  have hdl:(Kd c sg c.2.2.length).length≤c.2.2.length:=Ut
  refine lc (Qm (Qa rfl) (Qa rfl) QO QD rfl (by omega) hx8) ?_
  refine w_ ?_
  refine AL.fact (Qs (x:= .tmp 12) (Qa rfl)) fun hi9=> ?_
  iterate 6 refine w_ ?_
  refine lc (Y7 1 (Hm c sg hs (by omega)) QhM ⟨_,_,rfl,(Qb rfl),⟨_,_,rfl,(Qb rfl),rfl⟩⟩ rfl (Fresh.of rfl) (nlr rfl)) ?_
  iterate 3 refine w_ ?_
  refine Qj ?_
  refine (?_:AC _ _ _ _ _)
  iterate 3 refine w_ ?_
  refine Qj<|QS ⟨k+1,by omega,rfl,rfl⟩ (by omega) ?_
  exact Wk.of [(0,0)] rfl ⟨rfl,rfl,(show some (lI ((KQ c ((ZW c.1 c.1.length).take k))+((Kd c sg c.2.2.length).length:Int)))=some (lI (KQ c ((ZW c.1 c.1.length).take (k+1)))) from congrArg (fun z_=>some (lI z_)) (Qk1 hx8)),rfl,rfl,rfl,trivial⟩ ⟨rfl,trivial⟩ rfl rfl
theorem Qaq (c:(List (ByteArray×Int))×List ByteArray×(List (Int×Int×Bool×Int)))(sig:Int)[∀c,Decidable (SgOk c)]:FC Tryz.prog 263 [(true,[.dat (.sl 145 (.pr .str .int)) c.1, .dat (.sl 9 .str) c.2.1, .dat (.sl 179 (.pr .int (.pr .int (.pr .bool .int)))) c.2.2]),(false,[dI sig])] [] 0 (Zy (lB (decide (SgOk c∧(0≤sig∧sig≤(c.1.length:Int) - 1))))):=by
 refine QQ Tryz.func263 rfl rfl Tryz.ntmps263 fun O_ hO w0_ N0_ X_ h0_ f0_=> ?_
 refine AC.fact (Qs (x:= .tmp 1) (Qa rfl)) fun hi1=> ?_
 refine w_ ?_
 refine lc (Qr 0 (Qb rfl) rfl rfl (Fresh.of rfl) (nlr rfl)) ?_
 iterate 4 refine w_ ?_
 refine lc (Qh (Y2 c) Vs ⟨_,_,rfl,(Qb rfl),rfl⟩ rfl rfl) ?_
 refine w_ ?_
 cases hb2:(decide (SgOk c))
 ·have hb2':=of_decide_eq_false hb2
  iterate 9 refine w_ ?_
  refine Qe ?_
  subst hO
  have e3:(false:Bool)=(decide (SgOk c∧(0≤sig∧sig≤(c.1.length:Int) - 1))):=by
   (simp_all; done)
  exact Qg (Qd rfl (Qc rfl)) ((congrArg (fun z_=>lB z_) e3)) rfl
 ·have hb2':=of_decide_eq_true hb2
  iterate 3 refine w_ ?_
  refine AL.fact (QB (x:= .tmp 10) (Qa rfl)) fun hl4=> ?_
  iterate 2 refine w_ ?_
  refine lgy rfl rfl (Qh (XE sig 0 ((c.1.length:Int) - 1)) WI ⟨_,_,rfl,(Qb rfl),⟨_,_,rfl,(Evl.ev (QE rfl)),⟨_,_,rfl,(Qb rfl),rfl⟩⟩⟩ rfl rfl) ?_
  iterate 3 refine w_ ?_
  refine Qe ?_
  subst hO
  have e5:(decide (0≤sig∧sig≤((c.1.length:Int) - 1)):Bool)=(decide (SgOk c∧(0≤sig∧sig≤(c.1.length:Int) - 1))):=by
   (simp_all; done)
  exact Qg (Qd rfl (Qc rfl)) ((congrArg (fun z_=>lB z_) e5)) rfl
theorem JZ (c:(List (ByteArray×Int))×List ByteArray×(List (Int×Int×Bool×Int)))(sig:Int)(up:Bool)(hl:c.2.2.length≤4000):FC Tryz.prog 264 [(true,[.dat (.sl 145 (.pr .str .int)) c.1, .dat (.sl 9 .str) c.2.1, .dat (.sl 179 (.pr .int (.pr .int (.pr .bool .int)))) c.2.2]),(false,[dI sig]),(false,[dB up])] [] 0 (XZ 3 .int (exS sig up c.2.2)):=by
 refine QQ Tryz.func264 rfl rfl Tryz.ntmps264 fun O_ hO w0_ N0_ X_ h0_ f0_=> ?_
 refine AC.fact (Qs (x:= .tmp 1) (Qa rfl)) fun hi1=> ?_
 refine w_ ?_
 refine lc (Qr 0 (Qb rfl) rfl rfl (Fresh.of rfl) (nlr rfl)) ?_
 iterate 9 refine w_ ?_
 refine AL.fact (QB (x:= .tmp 11) (Qa rfl)) fun hl2=> ?_
 iterate 4 refine w_ ?_
 refine AC.wk (Wk.nilS 1 7 3 .int rfl (Fresh.of rfl) (nlr rfl)) ?_
 refine Qy (fun m_ s_=>∃(k:Nat),k≤c.2.2.length∧m_=c.2.2.length - k∧s_=⟨[(1,lI sig),(2,lB up),(6,lf (.val (.slice none 0 0))),(7,lR 2),(11,lf (.dat (.sl 179 (.pr .int (.pr .int (.pr .bool .int)))) c.2.2)),(12,lI (c.2.2.length:Int)),(13,lI (k:Int))],[(2,some (.arr 3 .int (exS sig up (c.2.2.take k))))]⟩) ⟨0,Nat.zero_le _,rfl,rfl⟩ ?_ ?_
 · exact Wk.of [(2,1)] rfl ⟨rfl,rfl,rfl,rfl,rfl,rfl,rfl,trivial⟩ ⟨(Qv (rfl)),trivial⟩ rfl rfl
 rintro m_ s_ ⟨k,hk3,hm4,rfl⟩
 have hel:=Qnd (sig:=sig) (up:=up) (as_:=c.2.2) (k:=k)
 iterate 4 refine w_ ?_
 cases hb5:(decide ((k:Int) < (c.2.2.length:Int)))
 ·have hb5':=of_decide_eq_false hb5
  refine w_ ?_
  refine QA ?_
  refine (?_:AC _ _ _ _ _)
  iterate 4 refine w_ ?_
  refine Qe ?_
  subst hO
  refine ZC (e:= .int) (xs:=(exS sig up (c.2.2.take k))) (Qd rfl (Qc rfl)) rfl ?_
  rw[Zh (by omega)]
 ·have hb5':=of_decide_eq_true hb5
  iterate 5 refine w_ ?_
  obtain ⟨ar,hx7⟩:∃z,c.2.2[k]? =some z:=⟨_,List.getElem?_eq_getElem (by omega)⟩
  refine lc (Qm (Qa rfl) (Qa rfl) Q9 QJ rfl (by omega) hx7) ?_
  refine w_ ?_
  refine lc (Qw 3 (.pr .int (.pr .int (.pr .bool .int))) Zq rfl rfl (Fresh.of rfl) (nlr rfl))<|lc (Qf (Qa rfl) rfl (Qb rfl) rfl QJ rfl) ?_
  iterate 5 refine w_ ?_
  refine lc (Qh (V2 ar sig up) JT ⟨_,_,rfl,(Qb rfl),⟨_,_,rfl,(Qb rfl),⟨_,_,rfl,(Qb rfl),rfl⟩⟩⟩ rfl rfl) ?_
  refine w_ ?_
  cases hb8:(decide (ar.2.1=sig∧ar.2.2.1=up))
  ·have hb8':=of_decide_eq_false hb8
   refine w_ ?_
   refine AC.skip ?_
   refine (?_:AC _ _ _ _ _)
   iterate 3 refine w_ ?_
   refine Qj<|QS ⟨k+1,by omega,rfl,rfl⟩ (by omega) ?_
   exact Wk.of [(2,2)] rfl ⟨rfl,rfl,rfl,rfl,rfl,rfl,rfl,trivial⟩ ⟨(Qv (by first | exact Qge hx7 (by assumption) | exact QiY hx7 (by assumption))),trivial⟩ rfl rfl
  ·have hb8':=of_decide_eq_true hb8
   iterate 5 refine w_ ?_
   refine AL.fact (Qs (x:= .tmp 23) (Qa rfl)) fun hi9=>lc (QP 4 [(0,2)] (WJ (exS sig up (c.2.2.take k)) ar.1 (by omega)) UO ⟨_,_,rfl,(Qb rfl),⟨_,_,rfl,(Qb rfl),rfl⟩⟩ ⟨rfl,trivial⟩ rfl ⟨(Fresh.of rfl),trivial⟩ (nlr rfl)) ?_
   refine w_ ?_
   refine Qj ?_
   refine (?_:AC _ _ _ _ _)
   iterate 3 refine w_ ?_
   refine Qj<|QS ⟨k+1,by omega,rfl,rfl⟩ (by omega) ?_
   exact Wk.of [(2,4)] rfl ⟨rfl,rfl,rfl,rfl,rfl,rfl,rfl,trivial⟩ ⟨(Qv (by first | exact Qge hx7 (by assumption) | exact QiY hx7 (by assumption))),trivial⟩ rfl rfl
theorem Kr (c:(List (ByteArray×Int))×List ByteArray×(List (Int×Int×Bool×Int)))(sig:Int)[∀c,Decidable (SgOk c)]:FC Tryz.prog 203 [(true,[.dat (.sl 145 (.pr .str .int)) c.1, .dat (.sl 9 .str) c.2.1, .dat (.sl 179 (.pr .int (.pr .int (.pr .bool .int)))) c.2.2]),(false,[dI sig])] [] 0 (Is (PV.tup [(false,[.ref 0]),(false,[dB (decide (SgOk c∧(0≤sig∧sig≤(c.1.length:Int) - 1)))])]) [(0,some (.arr 3 .int (if SgOk c∧(0≤sig∧sig≤(c.1.length:Int) - 1) then Kd c sig c.2.2.length else [])))]):=by
 refine QQ Tryz.func203 rfl rfl Tryz.ntmps203 fun O_ hO w0_ N0_ X_ h0_ f0_=> ?_
 refine AC.fact (Qs (x:= .tmp 1) (Qa rfl)) fun hi1=> ?_
 refine w_ ?_
 refine lc (Qr 0 (Qb rfl) rfl rfl (Fresh.of rfl) (nlr rfl)) ?_
 iterate 7 refine w_ ?_
 refine lc (Qh (Qaq c sig) QhG ⟨_,_,rfl,(Qb rfl),⟨_,_,rfl,(Qb rfl),rfl⟩⟩ rfl rfl) ?_
 iterate 2 refine w_ ?_
 cases hb2:(decide (SgOk c∧(0≤sig∧sig≤(c.1.length:Int) - 1)))
 ·have hb2':=of_decide_eq_false hb2
  iterate 5 refine w_ ?_
  refine AC.wk (Wk.nilS 1 4 3 .int rfl (Fresh.of rfl) (nlr rfl))<|Qe ?_
  subst hO
  have e3:(false:Bool)=(decide (SgOk c∧(0≤sig∧sig≤(c.1.length:Int) - 1))):=by
   (simp[*]; done)
  exact Q2 _ _ [(0,1)] (Z8 rfl (Qc rfl) (Qc rfl)) ((congrArg (fun z_=>PV.tup [(false,[.ref 1]),(false,[dB z_])]) e3)) ⟨(Qv (by (rw[if_neg (by assumption)]; done))),trivial⟩ rfl rfl
 ·have hb2':=of_decide_eq_true hb2
  iterate 2 refine w_ ?_
  refine Wz ?_
  have hask:SgOk c∧(0≤sig∧sig≤(c.1.length:Int) - 1):=by assumption
  have hs:=hask.1
  have hfw:=hs.few
  have h2l:([false,true]:List Bool).length=2:=rfl
  iterate 5 refine w_ ?_
  refine lc (Qk 2 (e:= .bool) Wr ZH QpI rfl ⟨_,_,rfl,(Evl.ev QU),⟨_,_,rfl,(Evl.ev QU),rfl⟩⟩ (List.all_eq_true.1 rfl) ⟨_,_,_,_,rfl,⟨rfl,rfl⟩,⟨_,_,_,_,rfl,⟨rfl,rfl⟩,⟨rfl,rfl⟩,rfl⟩,rfl⟩ (by decide) rfl rfl (Fresh.of rfl) (nlr rfl)) ?_
  iterate 4 refine w_ ?_
  refine AC.wk (Wk.nilS 3 6 3 .int rfl (Fresh.of rfl) (nlr rfl)) ?_
  refine Qy (fun m_ s_=>∃(k:Nat),k≤2∧m_=2 - k∧s_=⟨[(1,lI sig),(2,lP 0 0),(4,lf (.val (.slice none 0 0))),(5,lB false),(6,lR 4),(16,lR 2),(17,lI (([false,true]).length:Int)),(18,lI (k:Int))],[(0,some (.box 59 [.dat (.sl 145 (.pr .str .int)) c.1, .dat (.sl 9 .str) c.2.1, .dat (.sl 179 (.pr .int (.pr .int (.pr .bool .int)))) c.2.2])),(2,some (.arr 4 .bool ([false,true]))),(4,some (.arr 3 .int (Qfj c sig k)))]⟩) ⟨0,Nat.zero_le _,rfl,rfl⟩ ?_ ?_
  · exact Wk.of [(0,0),(2,2),(4,3)] rfl ⟨rfl,rfl,rfl,rfl,rfl,rfl,rfl,rfl,trivial⟩ ⟨rfl,rfl,(Qv (rfl)),trivial⟩ rfl rfl
  rintro m_ s_ ⟨k,hk4,hm5,rfl⟩
  iterate 4 refine w_ ?_
  cases hb6:(decide ((k:Int) < (([false,true]).length:Int)))
  ·have hb6':=of_decide_eq_false hb6
   refine w_ ?_
   refine QA ?_
   refine (?_:AC _ _ _ _ _)
   iterate 5 refine w_ ?_
   refine Qe ?_
   subst hO
   have e7:(true:Bool)=(decide (SgOk c∧(0≤sig∧sig≤(c.1.length:Int) - 1))):=by
    (simp[*]; done)
   exact Q2 _ _ [(0,4)] (Z8 rfl (Qc rfl) (Qc rfl)) ((congrArg (fun z_=>PV.tup [(false,[.ref 4]),(false,[dB z_])]) e7)) ⟨(Qv (by (rw[if_pos hask,show k=2 by omega,QmX]; done))),trivial⟩ rfl rfl
  ·have hb6':=of_decide_eq_true hb6
   iterate 5 refine w_ ?_
   refine lc (Qq (e:= .bool) (Qa rfl) rfl (Qa rfl) Wr ZH rfl (by omega) (by first | omega | (simp only[List.length_set]; omega))) ?_
   obtain ⟨u,hx9⟩:∃z,([false,true])[k]? =some z:=⟨_,List.getElem?_eq_getElem (by omega)⟩
   refine lc (Q7 (e:= .bool) (Qa rfl) rfl hx9 rfl ZH rfl rfl) ?_
   iterate 6 refine w_ ?_
   refine lc (Qh (JZ c sig u hfw).frozen QiS ⟨_,_,rfl,(Qb rfl),⟨_,_,rfl,(Qb rfl),⟨_,_,rfl,(Qb rfl),rfl⟩⟩⟩ rfl rfl) ?_
   iterate 5 refine w_ ?_
   refine AL.fact (QB (x:= .tmp 27) (Qa rfl)) fun hl10=> ?_
   iterate 4 refine w_ ?_
   refine Qy (fun m_ s_=>∃(i:Nat),i≤c.2.2.length∧m_=c.2.2.length - i∧s_=⟨[(1,lI sig),(2,lP 0 0),(4,lf (.val (.slice none 0 0))),(5,lB false),(6,lR 5),(8,lB u),(9,lf (.dat (.sl 3 .int) (exS sig u c.2.2))),(16,lR 2),(17,lI (([false,true]).length:Int)),(18,lI (k:Int)),(19,lB true),(20,lf (.ept 2 1 k 0)),(21,lB u),(22,ag [.dat (.sl 145 (.pr .str .int)) c.1, .dat (.sl 9 .str) c.2.1, .dat (.sl 179 (.pr .int (.pr .int (.pr .bool .int)))) c.2.2]),(23,lI sig),(24,lB u),(25,lf (.dat (.sl 3 .int) (exS sig u c.2.2))),(26,lP 0 2),(27,lf (.dat (.sl 179 (.pr .int (.pr .int (.pr .bool .int)))) c.2.2)),(28,lI (c.2.2.length:Int)),(29,lI (i:Int))],[(0,some (.box 59 [.dat (.sl 145 (.pr .str .int)) c.1, .dat (.sl 9 .str) c.2.1, .dat (.sl 179 (.pr .int (.pr .int (.pr .bool .int)))) c.2.2])),(2,some (.arr 4 .bool ([false,true]))),(5,some (.arr 3 .int (Km c sig u (Qfj c sig k) i)))]⟩) ⟨0,Nat.zero_le _,rfl,rfl⟩ ?_ ?_
   · exact Wk.of [(0,0),(2,2),(5,4)] rfl ⟨rfl,rfl,rfl,rfl,rfl,rfl,rfl,rfl,rfl,rfl,rfl,rfl,rfl,rfl,rfl,rfl,rfl,rfl,rfl,rfl,rfl,trivial⟩ ⟨rfl,rfl,(Qv (rfl)),trivial⟩ rfl rfl
   rintro m_ s_ ⟨i,hk11,hm12,rfl⟩
   have hdl:=Qlm (c:=c) (sig:=sig) (up:=u) (k:=i) (l:=Qfj c sig k) (Qf4 k) (Qlv k) (by omega)
   iterate 4 refine w_ ?_
   cases hb13:(decide ((i:Int) < (c.2.2.length:Int)))
   ·have hb13':=of_decide_eq_false hb13
    refine w_ ?_
    refine QA ?_
    refine (?_:AC _ _ _ _ _)
    iterate 3 refine w_ ?_
    refine Qj<|QS ⟨k+1,by omega,rfl,rfl⟩ (by omega) ?_
    exact Wk.of [(0,0),(2,2),(4,5)] rfl ⟨rfl,rfl,rfl,rfl,rfl,rfl,rfl,rfl,trivial⟩ ⟨rfl,rfl,(Qv ((by rw[show i=c.2.2.length by omega]; exact Qki (by omega) hx9))),trivial⟩ rfl rfl
   ·have hb13':=of_decide_eq_true hb13
    iterate 6 refine w_ ?_
    obtain ⟨ar,hx15⟩:∃z,c.2.2[i]? =some z:=⟨_,List.getElem?_eq_getElem (by omega)⟩
    refine lc (Qm (Qa rfl) (Qa rfl) Q9 QJ rfl (by omega) hx15) ?_
    refine w_ ?_
    refine lc (Qw 6 (.pr .int (.pr .int (.pr .bool .int))) Zq rfl rfl (Fresh.of rfl) (nlr rfl)) ?_
    refine w_ ?_
    refine lc (Qf (Qa rfl) rfl (Qb rfl) rfl QJ rfl) ?_
    iterate 4 refine w_ ?_
    refine AL.fact (Qs (x:= .tmp 35) (Qa rfl)) fun hi16=> ?_
    iterate 3 refine w_ ?_
    cases hb17:(!decide (ar.2.1=sig))
    ·have hb17':(ar.2.1=sig):=Ze hb17
     iterate 14 refine w_ ?_
     refine AC.skip ?_
     refine (?_:AC _ _ _ _ _)
     iterate 3 refine w_ ?_
     refine Qj<|QS ⟨i+1,by omega,rfl,rfl⟩ (by omega) ?_
     exact Wk.of [(0,0),(2,2),(5,5)] rfl ⟨rfl,rfl,rfl,rfl,rfl,rfl,rfl,rfl,rfl,rfl,rfl,rfl,rfl,rfl,rfl,rfl,rfl,rfl,rfl,rfl,rfl,trivial⟩ ⟨rfl,rfl,(Qv (by first | exact HW hx15 (Qfq (by assumption) (by assumption) (by assumption)) | exact XS hx15 (QeB (by assumption)) | exact XS hx15 (QeY (by assumption)) | exact XS hx15 (Qfg (by assumption)))),trivial⟩ rfl rfl
    ·have hb17':¬(ar.2.1=sig):=Zp hb17
     iterate 3 refine w_ ?_
     refine lgy rfl rfl (Qh (Yn (exS sig u c.2.2) ar.1) Y9 ⟨_,_,rfl,(Qb rfl),⟨_,_,rfl,(Qb rfl),rfl⟩⟩ rfl rfl) ?_
     iterate 2 refine w_ ?_
     cases hb18:(decide (ar.1∈(exS sig u c.2.2)))
     ·have hb18':=of_decide_eq_false hb18
      iterate 8 refine w_ ?_
      refine AC.skip ?_
      refine (?_:AC _ _ _ _ _)
      iterate 3 refine w_ ?_
      refine Qj<|QS ⟨i+1,by omega,rfl,rfl⟩ (by omega) ?_
      exact Wk.of [(0,0),(2,2),(5,5)] rfl ⟨rfl,rfl,rfl,rfl,rfl,rfl,rfl,rfl,rfl,rfl,rfl,rfl,rfl,rfl,rfl,rfl,rfl,rfl,rfl,rfl,rfl,trivial⟩ ⟨rfl,rfl,(Qv (by first | exact HW hx15 (Qfq (by assumption) (by assumption) (by assumption)) | exact XS hx15 (QeB (by assumption)) | exact XS hx15 (QeY (by assumption)) | exact XS hx15 (Qfg (by assumption)))),trivial⟩ rfl rfl
     ·have hb18':=of_decide_eq_true hb18
      iterate 3 refine w_ ?_
      refine lgy rfl rfl (Qh (Yn (exS sig u c.2.2) ar.2.2.2) Y9 ⟨_,_,rfl,(Qb rfl),⟨_,_,rfl,(Qb rfl),rfl⟩⟩ rfl rfl) ?_
      iterate 3 refine w_ ?_
      cases hb19:(decide (ar.2.2.2∈(exS sig u c.2.2)))
      ·have hb19':=of_decide_eq_false hb19
       iterate 4 refine w_ ?_
       refine lc (QP 7 [(0,5)] (WJ (Km c sig u (Qfj c sig k) i) (i:Int) (by omega)) UO ⟨_,_,rfl,(Qb rfl),⟨_,_,rfl,(Qb rfl),rfl⟩⟩ ⟨rfl,trivial⟩ rfl ⟨(Fresh.of rfl),trivial⟩ (nlr rfl)) ?_
       refine w_ ?_
       refine Qj ?_
       refine (?_:AC _ _ _ _ _)
       iterate 3 refine w_ ?_
       refine Qj<|QS ⟨i+1,by omega,rfl,rfl⟩ (by omega) ?_
       exact Wk.of [(0,0),(2,2),(5,7)] rfl ⟨rfl,rfl,rfl,rfl,rfl,rfl,rfl,rfl,rfl,rfl,rfl,rfl,rfl,rfl,rfl,rfl,rfl,rfl,rfl,rfl,rfl,trivial⟩ ⟨rfl,rfl,(Qv (by first | exact HW hx15 (Qfq (by assumption) (by assumption) (by assumption)) | exact XS hx15 (QeB (by assumption)) | exact XS hx15 (QeY (by assumption)) | exact XS hx15 (Qfg (by assumption)))),trivial⟩ rfl rfl
      ·have hb19':=of_decide_eq_true hb19
       refine w_ ?_
       refine AC.skip ?_
       refine (?_:AC _ _ _ _ _)
       iterate 3 refine w_ ?_
       refine Qj<|QS ⟨i+1,by omega,rfl,rfl⟩ (by omega) ?_
       exact Wk.of [(0,0),(2,2),(5,5)] rfl ⟨rfl,rfl,rfl,rfl,rfl,rfl,rfl,rfl,rfl,rfl,rfl,rfl,rfl,rfl,rfl,rfl,rfl,rfl,rfl,rfl,rfl,trivial⟩ ⟨rfl,rfl,(Qv (by first | exact HW hx15 (Qfq (by assumption) (by assumption) (by assumption)) | exact XS hx15 (QeB (by assumption)) | exact XS hx15 (QeY (by assumption)) | exact XS hx15 (Qfg (by assumption)))),trivial⟩ rfl rfl
theorem X7 (c:(List (ByteArray×Int))×List ByteArray×(List (Int×Int×Bool×Int)))[∀c,Decidable (SgOk c)]:FC Tryz.prog 127 [(true,[.dat (.sl 145 (.pr .str .int)) c.1, .dat (.sl 9 .str) c.2.1, .dat (.sl 179 (.pr .int (.pr .int (.pr .bool .int)))) c.2.2])] [] 0 (Zy (PV.tup [(false,[dI (if SgOk c then XM c else 0)]),(false,[dB (decide (SgOk c))])])):=by
 refine QQ Tryz.func127 rfl rfl Tryz.ntmps127 fun O_ hO w0_ N0_ X_ h0_ f0_=> ?_
 refine w_ ?_
 refine lc (Qr 0 (Qb rfl) rfl rfl (Fresh.of rfl) (nlr rfl)) ?_
 iterate 6 refine w_ ?_
 refine lc (Qh (Y2 c) Vs ⟨_,_,rfl,(Qb rfl),rfl⟩ rfl rfl) ?_
 iterate 2 refine w_ ?_
 cases hb1:(decide (SgOk c))
 ·have hb1':=of_decide_eq_false hb1
  iterate 5 refine w_ ?_
  refine Qe ?_
  subst hO
  have e2:(0:Int)=(if SgOk c then XM c else 0):=by
   (rw[if_neg (by assumption)]; done)
  have e3:(false:Bool)=(decide (SgOk c)):=by
   (simp[*]; done)
  exact Qg (Z8 rfl (Qc rfl) (Qc rfl)) (((congrArg (fun z_=>PV.tup [(false,[dI z_]),(false,[dB false])]) e2)).trans (congrArg (fun z_=>PV.tup [(false,[dI (if SgOk c then XM c else 0)]),(false,[dB z_])]) e3)) rfl
 ·have hb1':=of_decide_eq_true hb1
  iterate 2 refine w_ ?_
  refine Wz ?_
  have hs:SgOk c:=by assumption
  iterate 7 refine w_ ?_
  refine AL.fact (QB (x:= .tmp 13) (Qa rfl)) fun hl4=> ?_
  iterate 4 refine w_ ?_
  refine Qy (fun m_ s_=>∃(k:Nat),k≤c.1.length∧m_=c.1.length - k∧s_=⟨[(1,lP 0 0),(2,lI 0),(3,lB false),(4,lI (W8 c k)),(13,lf (.dat (.sl 145 (.pr .str .int)) c.1)),(14,lI (c.1.length:Int)),(15,lI (k:Int))],[(0,some (.box 59 [.dat (.sl 145 (.pr .str .int)) c.1, .dat (.sl 9 .str) c.2.1, .dat (.sl 179 (.pr .int (.pr .int (.pr .bool .int)))) c.2.2]))]⟩) ⟨0,Nat.zero_le _,rfl,rfl⟩ ?_ ?_
  · exact Wk.of [(0,0)] rfl ⟨rfl,rfl,rfl,(show some (lI 0)=some (lI (W8 c 0)) from congrArg (fun z_=>some (lI z_)) (rfl)),rfl,rfl,rfl,trivial⟩ ⟨rfl,trivial⟩ rfl rfl
  rintro m_ s_ ⟨k,hk6,hm7,rfl⟩
  have hds:=Qmk (k:=k) hs (by omega)
  have hdl:(Kd c (k:Int) c.2.2.length).length≤c.2.2.length:=Ut
  have hfw:=hs.few
  have hie:k < c.1.length→(if SgOk c∧(0≤(k:Int)∧(k:Int)≤(c.1.length:Int) - 1) then Kd c (k:Int) c.2.2.length else []).length≤c.2.2.length:=fun h=>by rw[if_pos ⟨hs,by omega⟩]; exact hdl
  iterate 4 refine w_ ?_
  cases hb8:(decide ((k:Int) < (c.1.length:Int)))
  ·have hb8':=of_decide_eq_false hb8
   refine w_ ?_
   refine QA ?_
   refine (?_:AC _ _ _ _ _)
   iterate 5 refine w_ ?_
   refine Qe ?_
   subst hO
   have e9:(W8 c k:Int)=(if SgOk c then XM c else 0):=by
    (rw[if_pos hs,show k=c.1.length by omega]; rfl)
   have e10:(true:Bool)=(decide (SgOk c)):=by
    (simp[*]; done)
   exact Qg (Z8 rfl (Qc rfl) (Qc rfl)) (((congrArg (fun z_=>PV.tup [(false,[dI z_]),(false,[dB true])]) e9)).trans (congrArg (fun z_=>PV.tup [(false,[dI (if SgOk c then XM c else 0)]),(false,[dB z_])]) e10)) rfl
  ·have hb8':=of_decide_eq_true hb8
   iterate 6 refine w_ ?_
   obtain ⟨sg,hx12⟩:∃z,c.1[k]? =some z:=⟨_,List.getElem?_eq_getElem (by omega)⟩
   have hie2:=hie (by omega)
   refine lc (Qm (Qa rfl) (Qa rfl) Yh Yj rfl (by omega) hx12) ?_
   refine w_ ?_
   refine lc (Qw 1 (.pr .str .int) Wq rfl rfl (Fresh.of rfl) (nlr rfl)) ?_
   refine w_ ?_
   refine lc (Qf (Qa rfl) rfl (Qb rfl) rfl Yj rfl) ?_
   iterate 4 refine w_ ?_
   refine lc (Ya 2 (Kr c (k:Int)) Qg8 ⟨_,_,rfl,(Qb rfl),⟨_,_,rfl,(Qb rfl),rfl⟩⟩ rfl rfl ⟨Fresh.of rfl,trivial⟩ (nlr rfl)) ?_
   iterate 9 refine w_ ?_
   refine AL.fact (Qs (x:= .tmp 27) (Qa rfl)) fun hi13=> ?_
   iterate 2 refine w_ ?_
   cases hb14:(!decide (sg.2=1))
   ·have hb14':(sg.2=1):=Ze hb14
    refine w_ ?_
    refine AC.skip ?_
    refine (?_:AC _ _ _ _ _)
    iterate 3 refine w_ ?_
    refine Qj<|QS ⟨k+1,by omega,rfl,rfl⟩ (by omega) ?_
    exact Wk.of [(0,0)] rfl ⟨rfl,rfl,rfl,(show some (lI (W8 c k))=some (lI (W8 c (k+1))) from congrArg (fun z_=>some (lI z_)) (by first | exact QjL hx12 (by assumption) | (rw[if_pos ⟨hs,by omega⟩]; exact QfR hx12 (by assumption)))),rfl,rfl,rfl,trivial⟩ ⟨rfl,trivial⟩ rfl rfl
   ·have hb14':¬(sg.2=1):=Zp hb14
    iterate 7 refine w_ ?_
    refine Qj ?_
    refine (?_:AC _ _ _ _ _)
    iterate 3 refine w_ ?_
    refine Qj<|QS ⟨k+1,by omega,rfl,rfl⟩ (by omega) ?_
    exact Wk.of [(0,0)] rfl ⟨rfl,rfl,rfl,(show some (lI ((W8 c k)+((if SgOk c∧(0≤(k:Int)∧(k:Int)≤(c.1.length:Int) - 1) then Kd c (k:Int) c.2.2.length else []).length:Int)))=some (lI (W8 c (k+1))) from congrArg (fun z_=>some (lI z_)) (by first | exact QjL hx12 (by assumption) | (rw[if_pos ⟨hs,by omega⟩]; exact QfR hx12 (by assumption)))),rfl,rfl,rfl,trivial⟩ ⟨rfl,trivial⟩ rfl rfl
end Go.Proofs.YtnakmhfjafecpaaGreat
