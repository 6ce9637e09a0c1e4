/- Abstract states: calls of which a property of the answer alone is known. No program is named here. -/
import Derived.Test.YtjaadeknhofhpaaGreatAg
import Derived.Test.YtjaadeknhofhpaaGreatCc
import Derived.Test.YtjaadeknhofhpaaGreatBc
import Derived.Test.YtjaadeknhofhpaaGreatCl
import Derived.Test.YtjaadeknhofhpaaGreatWq
import Derived.Test.YtjaadeknhofhpaaGreatWa
import Derived.Laws.Bits64b
set_option linter.unusedSimpArgs false
set_option linter.unusedVariables false
set_option linter.unusedSectionVars false
namespace Go.Proofs.YtjaadeknhofhpaaGreat
open Go.RowKit
@[reducible] def Ex {X:Type} (Q:X→Prop) (pv:X→PV) (T:X→Tab):PV→Tab→Prop:=fun p T'=>∃x,Q x∧p=pv x∧T'=T x
section
variable {A:Amb}{P:Program}{s:St}{f:FuncId}{xs:List Operand}{tys:Array TypeId}{args:List (Bool×List LV)}{d:Nat}{ty:TypeId}{pos:String}{af:Array Edge}{g:Option (Nat×Bool)}{T:Tab}{k:Nat}
  {X:Type} {Qx:X→Prop} {pv:X→PV} {T':X→Tab} {ops:Array Oper} {l:List Oper} {Q:Exit→St→Prop}
theorem DoesT.callX (n:Nat)(ρ:List (Nat×Nat))(hc:FC P f args T k (Ex Qx pv T'))(hE:Qt P f)(ha:EvL A s xs (args.map fun c=>(c.1,c.2.map (LV.ren (rn ρ)))))(hT:HasE s ρ T)
    (hi:(VT (T.map fun p=>rn ρ p.1)&&Nat.blt d A.n)=true) (hB:∀x,(Y5 (pv x) (T' x)&&VT ((T' x).map fun p=>sg ρ k n p.1)&&QlE T (T' x) k)=true) (hfr:∀x,FrK s n k (Yr (T' x))) (hk0:A.k0≤n):
    DoesT A P ⟨some d, .call ⟨.value (.func f),xs.toArray,tys⟩,ty,pos,af,g⟩ s (fun s'=>∃x,Qx x∧s'=s.backP d (sg ρ k n) (T.map fun p=>rn ρ p.1) (pv x) (T' x)):=fun a w K Q r hK=>by
  obtain ⟨gh,r⟩:=r
  rw[aF] at hi
  obtain ⟨hi,hn⟩:=hi
  have hal:∀q,T.al q→s.tab.al (rn ρ q):=fun q ⟨e,h⟩=>⟨_,hT.get h⟩
  have hinj:∀q q',T.al q→T.al q'→rn ρ q=rn ρ q'→q=q':=fun q q' h1 h2 h=>JQ hi h1 h2 h
  have cx0:Cx T (gh.via (rn ρ)) w:=⟨fun q e h=>(EntR.ren.1 (r.cx.en _ _ (hT.get h))).mono (fun r' _ h'=>⟨hal r' h',rfl⟩) (fun g hg=>⟨hg,rfl⟩) rfl rfl fun _ _=>rfl,
    fun q q' h1 h2 hne=>r.cx.dj _ _ (hal q h1) (hal q' h2) fun h=>hne (hinj q q' h1 h2 h),fun q h=>r.cx.nd _ (hal q h),fun q h=>r.cx.no _ (hal q h),r.cx.nl⟩
  have hv:=(CmsR.ren.1 (ha.cms r)).mono (al':=T.al) (gh':=gh.via (rn ρ)) (w':=w) (fun q _ h=>⟨hal q h,rfl⟩) fun g hg=>⟨hg,rfl⟩
  refine Hl hE rfl (Calls.mono (hc _ w _ cx0 hv) fun e w' he=> ?_)
  obtain ⟨v,pv',T2,gh',rfl,⟨x,hq,rfl,rfl⟩,cx,hp,fr,hkk⟩:=he
  have h2:=hB x
  simp only[aF] at h2
  refine hK _ _ _ ⟨x,hq,rfl⟩ (QhY n ρ r hT hi h2.1.1 h2.1.2 (fun q ⟨e,hq⟩ hk=> ?_) (fun q ⟨e,hq⟩ hk=>(hfr x).get q (ZV hq).1 hk) hk0 hn cx hp fr hkk)
  have:=ae.1 h2.2 q (ZV hq).1
  rw[show Nat.blt q k=true from cn hk] at this
  exact b9.1 (by simpa using this)
theorem Y9 (n:Nat)(ρ:List (Nat×Nat))(hc:FC P f args T k (Ex Qx pv T'))(hE:Qt P f)(ha:EvL A s xs (args.map fun c=>(c.1,c.2.map (LV.ren (rn ρ)))))(hT:HasE s ρ T)
    (hi:(VT (T.map fun p=>rn ρ p.1)&&Nat.blt d A.n)=true) (hB:∀x,(Y5 (pv x) (T' x)&&VT ((T' x).map fun p=>sg ρ k n p.1)&&QlE T (T' x) k)=true) (hfr:∀x,FrK s n k (Yr (T' x))) (hk0:A.k0≤n)
    (h:∀x,Qx x→AL A P ops l Q (s.backP d (sg ρ k n) (T.map fun p=>rn ρ p.1) (pv x) (T' x))):AL A P ops (⟨some d, .call ⟨.value (.func f),xs.toArray,tys⟩,ty,pos,af,none⟩ :: l) Q s:=
  Qoc rfl (DoesT.callX n ρ hc hE ha hT hi hB hfr hk0) fun s' ⟨x,hq,e⟩=>e▸h x hq
theorem ZU {fn:Func}{s:St}(x:X)(ρ:List (Nat×Nat)){pv0:PV}(hq:Qx x)(h1:Res A P fn s pv0)(h0:pv0=(pv x).ren (rn ρ))(h2:HasE ⟨[],s.tab⟩ ρ (T' x))(h3:VT ((T' x).map fun x=>rn ρ x.1)=true)(h4:idB ρ k=true):fin A P fn (QkT (Ex Qx pv T') k) .ret s:=
  QcV (pv x) (T' x) ρ (h0▸h1) h2 h3 h4 ⟨x,hq,rfl,rfl⟩
end
theorem FC.frozenX {P:Program}{f:FuncId}{args:List (Bool×List LV)}{X:Type}{Q:X→Prop}{pv:X→PV}{T:X→Tab}(h:FC P f args [] 0 (Ex Q pv T)):FC P f args [] 0 (Ex Q (fun x=>(pv x).thaw (T x)) (fun _=>[])):=fun gh w vs cx ha=>
  Calls.mono (h gh w vs cx ha) fun e' w' he=>by
    obtain ⟨v,pv',T',gh',rfl,⟨x,hq,rfl,rfl⟩,cx',hp,fr,_⟩:=he
    refine ⟨v,_,[],_,rfl,⟨x,hq,rfl,rfl⟩,Vs Z6 _ _ fun g hg=> ?_,hp.thaw cx',⟨fr.gw,fr.kp,fun g hg=> ?_,fun q hq=>absurd hq (Z6 q)⟩,fun q hq=>absurd hq (by omega)⟩
    · rcases hg with hg | ⟨q, hq, hg⟩
      · exact cx'.nl g hg
      · exact cx'.lt hq g hg
    · rcases hg with hg | ⟨q, hq, hg⟩
      · exact fr.nn g hg
      · rcases fr.ox q hq g hg with h | ⟨q', h, _⟩
        · exact .inr (.inl h)
        · exact absurd h (Z6 q')
section
variable {A:Amb}{P:Program}{s:St}{f:FuncId}{xs:List Operand}{tys:Array TypeId}{args:List (Bool×List LV)}{d:Nat}{ty T:TypeId}{pos:String}{af:Array Edge}{g:Option (Nat×Bool)}
  {X:Type} {Qx:X→Prop} {pv:X→PV} {ops:Array Oper} {l:List Oper} {Q:Exit→St→Prop} {x:Operand}
end
end Go.Proofs.YtjaadeknhofhpaaGreat
namespace Go.Proofs.YtjaadeknhofhpaaGreat
open Go.RowKit
set_option maxRecDepth 100000
set_option maxHeartbeats 4000000
def spS (s:ByteArray)(b:UInt8):Nat→List ByteArray×Int
  | 0=>([],0)
  | i+1=>if s[i]? =some b then ((spS s b i).1++[s.extract (spS s b i).2.toNat i],(i:Int)+1) else spS s b i
def Z5 (s:ByteArray)(b:UInt8):List ByteArray:=(spS s b s.size).1++[s.extract (spS s b s.size).2.toNat s.size]
section
variable {s:ByteArray}{b c:UInt8}{i:Nat}
theorem Qqi (h:s[i]? =some c)(e:c=b):((spS s b i).1++[s.extract (spS s b i).2.toNat i],(i:Int)+1)=spS s b (i+1):=by rw[spS,if_pos (by rw[h,e])]
theorem QrN (h:s[i]? =some c)(e:¬c=b):spS s b i=spS s b (i+1):=by rw[spS,if_neg (by rw[h]; simpa using e)]
theorem Qk6:0≤(spS s b i).2∧(spS s b i).2≤(i:Int)∧(spS s b i).1.length≤i:=by
  induction i with
  | zero=>exact ⟨Int.le_refl _,Int.le_refl _,aL _⟩
  | succ i ih=>
    rw[spS]
    split
    · refine ⟨by show (0 : Int) ≤ (i : Int) + 1; omega, by show ((i : Int) + 1) ≤ ((i + 1 : Nat) : Int); omega, ?_⟩
      rw[aa,ah,aj]; omega
    · obtain ⟨h1,h2,h3⟩:=ih; exact ⟨h1,by omega,by omega⟩
theorem Qm3:(Z5 s b).length≤s.size+1:=by
  unfold Z5
  have:=Qk6 (s:=s) (b:=b) (i:=s.size)
  rw[aa,ah,aj]; omega
end
abbrev DTr:=List Int×List Int
abbrev DB:=QX×List ByteArray×List ByteArray
def b0 (t:ByteArray):UInt8:=(t[0]?).getD 0
def bZ (t:ByteArray):UInt8:=(t[t.size - 1]?).getD 0
def H3 (l:List ByteArray)(x:ByteArray):Bool:=l.any fun y=>decide (y=x)
def atB (l:List ByteArray)(x:ByteArray):Int:=if H3 l x=true then ZN (fun y=>decide (y=x)) l else (l.length:Int)
def plV (b:DB)(name:ByteArray):DB:=if H3 b.2.1 name=true then b else (((b.1.1.1+1,b.1.1.2),b.1.2.1,b.1.2.2.1,b.1.2.2.2++(⟨#[48]⟩:ByteArray)),b.2.1++[name],b.2.2)
def plI (b:DB)(name:ByteArray):Int:=atB b.2.1 name
def Qa7 (word:ByteArray):ByteArray:=((Z5 word 47)[0]?).getD ByteArray.empty
def Qkb (G:List Q9)(word:ByteArray):ZD:=if b0 (Qa7 word)=126 then (-1,false) else (ZN (fun g=>decide (g.1=(Qa7 word).extract 0 ((Qa7 word).size - 1))) G,decide (bZ (Qa7 word)=43))
def trV (b:DB)(word:ByteArray):DB:=if H3 b.2.2 word=true then b else (((b.1.1.1,b.1.1.2++[([],[])]),b.1.2.1,b.1.2.2.1++[Qkb b.1.2.1 word],b.1.2.2.2),b.2.1,b.2.2++[word])
def trI (b:DB)(word:ByteArray):Int:=atB b.2.2 word
def H5 (text:ByteArray):ByteArray:=if b0 text=42 then text.extract 1 text.size else text
def X9 (text:ByteArray)(k:Nat):ByteArray:=((Z5 (H5 text) 62)[k]?).getD ByteArray.empty
def Qa6 (text:ByteArray):ByteArray:=if b0 (X9 text 1)=95 then X9 text 1 else if b0 (X9 text 0)=95 then X9 text 0 else H5 text
def QeU (T:List DTr)(t p:Int):List DTr:=T.modify t.toNat fun x=>(x.1,Y1 ltI p x.2)
def Qd0 (T:List DTr)(t p:Int):List DTr:=T.modify t.toNat fun x=>(Y1 ltI p x.1,x.2)
def ar1 (p:Int)(b:DB)(text:ByteArray):DB:=if b0 (X9 text 0)=95 then b else
  let c:=trV b (X9 text 0); (((c.1.1.1,QeU c.1.1.2 (trI b (X9 text 0)) p),c.1.2.1,c.1.2.2.1,c.1.2.2.2),c.2.1,c.2.2)
def ar2 (p:Int)(b:DB)(text:ByteArray):DB:=if b0 (X9 text 1)=95 then b else
  let c:=trV b (X9 text 1); (((c.1.1.1,Qd0 c.1.1.2 (trI b (X9 text 1)) p),c.1.2.1,c.1.2.2.1,c.1.2.2.2),c.2.1,c.2.2)
def QnT (s:ByteArray)(p:Int):ByteArray:=s.extract 0 p.toNat++(⟨#[49]⟩:ByteArray)++s.extract (p+1).toNat s.size
def arV (b:DB)(text:ByteArray):DB:=
  let p:=plI b (Qa6 text)
  let c:=ar2 p (ar1 p (plV b (Qa6 text)) text) text
  if b0 text=42 then ((c.1.1,c.1.2.1,c.1.2.2.1,QnT c.1.2.2.2 p),c.2.1,c.2.2) else c
def sgN (names:ByteArray)(kd:Int)(i:Nat):List Q9:=(List.range i).map fun j=>(names.extract j (j+1),kd)
def sgA:List ByteArray→Int→List Q9
  | [],_=>[]
  | n :: l,k=>sgN n k n.size++sgA l (k+1)
def buG (ins outs inner:ByteArray):List Q9:=sgA [ins,outs,inner] 1
def buB (G:List Q9)(arcs:ByteArray):DB:=(Z5 arcs 32).foldl arV (((0,[]),G,[],ByteArray.empty),[],[])
def Za (ins outs inner arcs:ByteArray):QX:=(buB (buG ins outs inner) arcs).1
def okW (w:ByteArray):Bool:=decide (1≤w.size)&&(decide (b0 w=95)||decide (1≤(Qa7 w).size))
def okA (t:ByteArray):Bool:=decide (1≤t.size)&&(decide (2≤(Z5 (H5 t) 62).length)&&(okW (X9 t 0)&&okW (X9 t 1)))
section
variable {l:List ByteArray}{x name word text:ByteArray}{b c:DB}{G:List Q9}{n k:Nat}
theorem QpT {α:Type _}{f:α→Bool}{l:List α}(h:l.any f=true):0≤ZN f l∧ZN f l < (l.length:Int):=by
  have h1:=Vx f l
  rw[h,aN] at h1
  refine ⟨h1, ?_⟩
  unfold ZN at*
  cases hf:l.findIdx? f with
  | none=>rw[hf] at h1; simp at h1
  | some i=>
    have:=(bO.1 hf).1
    simpa using this
theorem Qo4 (h:H3 l x=true):0≤atB l x∧atB l x < (l.length:Int):=by
  unfold atB; rw[if_pos h]; exact QpT h
theorem Qbz (h:H3 l x=false):atB l x=(l.length:Int):=if_neg (by rw[h]; decide)
theorem QoW (hn:NoneTo (fun y=>decide (y=x)) l k){y:ByteArray}(hx:l[k]? =some y)(e:y=x):(k:Int)=atB l x:=by
  unfold atB
  have h1:H3 l x=true:=Qpe hx (aK e)
  rw[if_pos h1,hn.at hx (aK e)]
theorem XC {y:ByteArray}(hx:l[k]? =some y)(e:y=x):H3 l x=true:=Qpe hx (aK e)
theorem YK (hn:NoneTo (fun y=>decide (y=x)) l k)(hk:l.length≤k):H3 l x=false:=hn.any_no hk
theorem Je (h:H3 b.2.1 name=true):plV b name=b:=if_pos h
theorem VZ (h:H3 b.2.1 name=false):plV b name=(((b.1.1.1+1,b.1.1.2),b.1.2.1,b.1.2.2.1,b.1.2.2.2++(⟨#[48]⟩:ByteArray)),b.2.1++[name],b.2.2):=if_neg (by rw[h]; decide)
theorem K3 (h:H3 b.2.2 word=true):trV b word=b:=if_pos h
theorem Y4 (h:H3 b.2.2 word=false):trV b word=(((b.1.1.1,b.1.1.2++[([],[])]),b.1.2.1,b.1.2.2.1++[Qkb b.1.2.1 word],b.1.2.2.2),b.2.1,b.2.2++[word]):=if_neg (by rw[h]; decide)
structure DBJ (b:DB) (p w m:Nat):Prop where
  st:b.1.2.2.2.size=b.2.1.length
  tr:b.1.1.2.length=b.2.2.length
  la:b.1.2.2.1.length=b.2.2.length
  p0:b.1.1.1=(b.2.1.length:Int)
  pl:b.2.1.length≤p
  ws:b.2.2.length≤w
  inn:∀t∈b.1.1.2,t.1.length≤m∧t.2.length≤m
theorem QlO:0≤plI b name∧plI b name < ((plV b name).2.1.length:Int):=by
  unfold plI
  cases h:H3 b.2.1 name with
  | true=>rw[Je h]; exact Qo4 h
  | false=>rw[VZ h,Qbz h,aa]; simp only[ah,aj]; omega
theorem Qlx:0≤trI b word∧trI b word < ((trV b word).2.2.length:Int):=by
  unfold trI
  cases h:H3 b.2.2 word with
  | true=>rw[K3 h]; exact Qo4 h
  | false=>rw[Y4 h,Qbz h,aa]; simp only[ah,aj]; omega
theorem QiV:(trV b word).1.1.1=b.1.1.1∧(trV b word).1.2.1=b.1.2.1∧(trV b word).1.2.2.2=b.1.2.2.2∧(trV b word).2.1=b.2.1:=by unfold trV; split <;> exact ⟨rfl,rfl,rfl,rfl⟩
theorem DBJ.pl_ {p w m:Nat}(h:DBJ b p w m):DBJ (plV b name) (p+1) w m:=by
  cases hi:H3 b.2.1 name with
  | true=>rw[Je hi]; exact ⟨h.st,h.tr,h.la,h.p0,Nat.le_succ_of_le h.pl,h.ws,h.inn⟩
  | false=>
    rw[VZ hi]
    have hs:(⟨#[48]⟩:ByteArray).size=1:=rfl
    refine ⟨?_,h.tr,h.la, ?_, ?_,h.ws,h.inn⟩
    · show (b.1.2.2.2 ++ (⟨#[48]⟩ : ByteArray)).size = (b.2.1 ++ [name]).length
      rw[aV,aa,h.st,hs]; rfl
    · show b.1.1.1 + 1 = ((b.2.1 ++ [name]).length : Int)
      rw[aa,h.p0]; simp
    · show (b.2.1 ++ [name]).length ≤ p + 1
      rw[aa]; have:=h.pl; simp only[ah,aj]; omega
theorem DBJ.tr_ {p w m:Nat}(h:DBJ b p w m):DBJ (trV b word) p (w+1) m:=by
  cases hi:H3 b.2.2 word with
  | true=>rw[K3 hi]; exact ⟨h.st,h.tr,h.la,h.p0,h.pl,Nat.le_succ_of_le h.ws,h.inn⟩
  | false=>
    rw[Y4 hi]
    refine ⟨h.st, ?_, ?_,h.p0,h.pl, ?_, ?_⟩
    · show (b.1.1.2 ++ [([], [])]).length = (b.2.2 ++ [word]).length
      rw[aa,aa,h.tr]; rfl
    · show (b.1.2.2.1 ++ [Qkb b.1.2.1 word]).length = (b.2.2 ++ [word]).length
      rw[aa,aa,h.la]; rfl
    · show (b.2.2 ++ [word]).length ≤ w + 1
      rw[aa]; have:=h.ws; simp only[ah,aj]; omega
    · intro t ht
      rcases aJ.1 ht with ht | ht
      · exact h.inn t ht
      · rw[aM.1 ht]; exact ⟨aw _,aw _⟩
theorem QlG {T:List DTr}{m i:Nat}{f:DTr→DTr}(h:∀t∈T,t.1.length≤m∧t.2.length≤m)(hf:∀t,(f t).1.length≤t.1.length+1∧(f t).2.length≤t.2.length+1):∀t∈T.modify i f,t.1.length≤m+1∧t.2.length≤m+1:=fun t ht=>by
  obtain ⟨j,hj⟩:=aS.1 ht
  rw[cO] at hj
  cases hT:T[j]? with
  | none=>rw[hT] at hj; cases hj
  | some u=>
    rw[hT] at hj
    have hu:=h u (ai hT)
    have h1:=hf u
    have hj:some (if i=j then f u else u)=some t:=hj
    cases hj
    split <;> omega
theorem DBJ.st_ {p w m:Nat}{q:Int}(h:DBJ b p w m)(hq:0≤q∧q < (b.2.1.length:Int)):DBJ ((b.1.1,b.1.2.1,b.1.2.2.1,QnT b.1.2.2.2 q),b.2.1,b.2.2) p w m:=by
  refine ⟨?_,h.tr,h.la,h.p0,h.pl,h.ws,h.inn⟩
  have hs:(⟨#[49]⟩:ByteArray).size=1:=rfl
  have h1:=h.st
  show (QnT b.1.2.2.2 q).size=b.2.1.length
  unfold QnT
  simp only[aV,aR,hs]
  omega
theorem DBJ.more {p w m p' w' m':Nat}(h:DBJ b p w m)(h1:p≤p')(h2:w≤w')(h3:m≤m'):DBJ b p' w' m':=⟨h.st,h.tr,h.la,h.p0,b5 h.pl h1,b5 h.ws h2,fun t ht=>⟨b5 (h.inn t ht).1 h3,b5 (h.inn t ht).2 h3⟩⟩
theorem DBJ.ar1_ {p w m:Nat}{q:Int}(h:DBJ b p w m):DBJ (ar1 q b text) p (w+1) (m+1):=by
  unfold ar1
  split
  · exact h.more (aL _) (by omega) (by omega)
  · have k := h.tr_ (word := X9 text 0)
    exact ⟨k.st,(List.length_modify ..).trans k.tr,k.la,k.p0,k.pl,k.ws,QlG k.inn fun t=>⟨Nat.le_succ _,Qa9 _ _⟩⟩
theorem DBJ.ar2_ {p w m:Nat}{q:Int}(h:DBJ b p w m):DBJ (ar2 q b text) p (w+1) (m+1):=by
  unfold ar2
  split
  · exact h.more (aL _) (by omega) (by omega)
  · have k := h.tr_ (word := X9 text 1)
    exact ⟨k.st,(List.length_modify ..).trans k.tr,k.la,k.p0,k.pl,k.ws,QlG k.inn fun t=>⟨Qa9 _ _,Nat.le_succ _⟩⟩
theorem QnL {q:Int}:(ar1 q b text).2.1=b.2.1:=by unfold ar1; split; exact rfl; exact QiV.2.2.2
theorem QoV {q:Int}:(ar2 q b text).2.1=b.2.1:=by unfold ar2; split; exact rfl; exact QiV.2.2.2
theorem DBJ.ar_ {p w m:Nat}(h:DBJ b p w m):DBJ (arV b text) (p+1) (w+2) (m+2):=by
  have k1:=h.pl_ (name:=Qa6 text)
  have k2:=k1.ar1_ (q:=plI b (Qa6 text)) (text:=text)
  have k3:=k2.ar2_ (q:=plI b (Qa6 text)) (text:=text)
  unfold arV
  dsimp only
  split
  · exact k3.st_ (by rw[QoV,QnL]; exact QlO)
  · exact k3
theorem DBJ.zero (G:List Q9):DBJ (((0,[]),G,[],ByteArray.empty),[],[]) 0 0 0:=⟨rfl,rfl,rfl,rfl,aL _,aL _,fun t h=>by cases h⟩
theorem Qno:∀(l:List ByteArray) {b:DB} {p w m:Nat},DBJ b p w m→DBJ (l.foldl arV b) (p+l.length) (w+2*l.length) (m+2*l.length)
  | [],_,_,_,_,h=>h
  | t :: l,b,p,w,m,h=>by
    have:=Qno l (h.ar_ (text:=t))
    rw[bC,ah,show p+(l.length+1)=p+1+l.length by omega,show w+2*(l.length+1)=w+2+2*l.length by omega,show m+2*(l.length+1)=m+2+2*l.length by omega]; exact this
end
end Go.Proofs.YtjaadeknhofhpaaGreat
namespace Go.Proofs.YtjaadeknhofhpaaGreat
open Go.RowKit
set_option maxRecDepth 100000
set_option maxHeartbeats 4000000
section
variable [∀s,Decidable (StgOk s)]{s:QX}{a:Qq×Int×Int}{M:List Qq}{o z:Qq}
def BstG (s:QX)(a:Qq×Int×Int)(M:List Qq):Prop:=
  (a.2.1 < 0∧M=[])∨(a.1∈M∧a.2.1=oc1 s a.1∧a.2.2=oc2 s a.1∧∀o∈M,¬oc1 s o < a.2.1∧¬(oc1 s o=a.2.1∧a.2.2 < oc2 s o))
theorem BstG.step (h:BstG s a M):BstG s (Qgd s a o) (M++[o]):=by
  unfold Qgd
  have hn:0≤oc1 s o:=QkS
  rcases h with ⟨h1,rfl⟩ | ⟨h1,h2,h3,h4⟩
  · rw [if_pos (.inl h1)]
    refine .inr ⟨aO _ (aM.2 rfl),rfl,rfl,fun x hx=> ?_⟩
    rw[bF,aM] at hx
    subst hx
    exact ⟨by show¬oc1 s x < oc1 s x; omega,by show¬(oc1 s x=oc1 s x∧oc2 s x < oc2 s x); omega⟩
  · have h0 : 0 ≤ a.2.1 := by rw [h2]; exact QkS
    split
    · rename_i hc
      refine .inr ⟨aO _ (aM.2 rfl),rfl,rfl,fun x hx=> ?_⟩
      show¬oc1 s x < oc1 s o∧¬(oc1 s x=oc1 s o∧oc2 s o < oc2 s x)
      rcases aJ.1 hx with hx | hx
      · obtain ⟨k1, k2⟩ := h4 x hx
        omega
      · rw[aM] at hx; subst hx; omega
    · rename_i hc
      refine .inr ⟨aT _ h1,h2,h3,fun x hx=> ?_⟩
      rcases aJ.1 hx with hx | hx
      · exact h4 x hx
      · rw [aM] at hx
        subst hx
        exact ⟨fun g=>hc (.inr (.inl g)),fun g=>hc (.inr (.inr g))⟩
theorem QgD:∀(l:List Qq) {a:Qq×Int×Int} {M:List Qq},BstG s a M→BstG s (l.foldl (Qgd s) a) (M++l)
  | [],a,M,h=>by rw[bt]; exact h
  | o :: l,a,M,h=>by
    have:=QgD l (h.step (o:=o))
    rw[aI] at this
    exact this
theorem Qke (l:List Qq):BstG s (JH s l) l:=by
  have:=QgD (s:=s) l (a:=((0,0,false), -1,0)) (M:=[]) (.inl ⟨by decide,rfl⟩)
  exact this
theorem Qqe (h:boB s=true):boV s∈ZP s∧∀z∈ZP s,¬oc1 s z < oc1 s (boV s)∧¬(oc1 s z=oc1 s (boV s)∧oc2 s (boV s) < oc2 s z):=by
  unfold boB at h
  rw[aN] at h
  rcases Qke (s:=s) (ZP s) with ⟨_,h2⟩ | ⟨h1,h2,h3,h4⟩
  · rw[h2] at h; simp at h
  · refine ⟨h1, fun z hz => ?_⟩
    have:=h4 z hz
    rw[h2,h3] at this
    exact this
theorem QhC (h:z∈ZP s):ocB s z=true:=bm.2 ⟨z,h,aK rfl⟩
theorem Qg6 (h:z∈ZP s):ox1 s z=oc1 s z∧ox2 s z=oc2 s z:=by
  have:=QaI (QhC h)
  exact ⟨this.1,this.2.1⟩
theorem QkA (h:boB s=true):ocB s (boV s)=true∧∀z∈ZP s,ocB s z=true∧¬ox1 s z < ox1 s (boV s)∧¬(ox1 s z=ox1 s (boV s)∧ox2 s (boV s) < ox2 s z):=by
  obtain ⟨h1,h2⟩:=Qqe h
  refine ⟨QhC h1,fun z hz=>⟨QhC hz, ?_⟩⟩
  rw[(Qg6 h1).1,(Qg6 h1).2,(Qg6 hz).1,(Qg6 hz).2]
  exact h2 z hz
theorem Qcp (h:boB s=true):(sgV s).2=true:=by
  cases hs:(sgV s).2 with
  | true=>rfl
  | false=>rw[(QeJ hs).2] at h; cases h
theorem Qm7 {s:QX}{o:Qq}{l:List Qq}(h:(QM s (o :: l)).2=true):(Q7 s o).2=true∧QM (Q7 s o).1 l=QM s (o :: l):=by
  unfold QM at h ⊢
  split at h
  · rename_i h1
    rw[if_pos h1]
    have h2:(Q7 s o).2=true:=by
      cases hb:(Q7 s o).2 with
      | true=>rfl
      | false=>rw[U8,if_neg (by rw[hb]; decide)] at h; cases h
    have h3:StgOk (Q7 s o).1:=by
      unfold Q7 at h2 ⊢
      split at h2
      · rename_i g
        rw[if_pos g]
        unfold Z4 at h2 ⊢
        split at h2
        · rename_i g2; rw[if_pos g2]; exact g2
        · cases h2
      · cases h2
    refine ⟨h2, ?_⟩
    have h4:l.length≤6:=by have:=h1.2; rw[ah] at this; omega
    rw[if_pos ⟨h3,h4⟩]
    show _=U8 s (o :: l)
    rw[U8,if_pos h2]
  · cases h
end
end Go.Proofs.YtjaadeknhofhpaaGreat
namespace Go.Proofs.YtjaadeknhofhpaaGreat
open Go.RowKit
set_option maxRecDepth 100000
set_option maxHeartbeats 4000000
def fbS:QX:=((4,[([3],[0]),([0],[1]),([1],[2]),([2],[3])]),[(⟨#[97]⟩,1),(⟨#[98]⟩,2)],[(0,true),(1,true),(0,false),(1,false)],⟨#[48,48,48,49]⟩)
end Go.Proofs.YtjaadeknhofhpaaGreat
namespace Go.Proofs.YtjaadeknhofhpaaGreat
open Go.RowKit
theorem Ky (n:Int):0≤IntKind.u64.wrap n∧IntKind.u64.wrap n < 18446744073709551616:=by
  simp only[IntKind.wrap,IntKind.bits,IntKind.signed]
  simp
  omega
theorem JD {a:Int}(h:0≤a∧a < 18446744073709551616):0≤a / 2 ^ 40∧a / 2 ^ 40 < 18446744073709551616:=by omega
theorem Qev {a:Int}(h:0≤a∧a < 18446744073709551616):0≤bits BinOp.and IntKind.u64 a 255∧bits BinOp.and IntKind.u64 a 255≤255:=by
  have h1:=bits_and_u64_nat a.toNat 255 (by omega) (by decide)
  rw[show ((a.toNat:Nat):Int)=a by omega,show ((255:Nat):Int)=255 from rfl] at h1
  have h2:a.toNat &&& 255≤255:=Nat.and_le_right
  rw[h1]
  omega
section
variable {A:Amb}{P:Program}{s:St}{x y:Operand}{d:Nat}{T T' ty:TypeId}{pos:String}{af:Array Edge}{g:Option (Nat×Bool)}{a b:Int}
theorem QfH (hx:Evl A s x (.val (.int .u64 a)))(hy:Evl A s y (.val (.int .u64 b)))(hn:Nat.blt d A.n=true):Does A P ⟨some d, .binOp .mul T x y T',ty,pos,af,g⟩ s (s.put d (lf (.val (.int .u64 (IntKind.u64.wrap (a*b)))))):=
  Qr rfl hn fun gh a' w r=>by
    have h1:a'.eval x= .int .u64 a:=hx gh a' w r
    have h2:a'.eval y= .int .u64 b:=hy gh a' w r
    refine ⟨_, ?_,_,rfl,rfl⟩
    simp only[execOp,h1,h2,eqGuard_at_int,binOp,Op.intArith]
    simp
theorem Hk (hx:Evl A s x (.val (.int .u64 a)))(hy:Evl A s y (.val (.int .u64 b)))(hn:Nat.blt d A.n=true):Does A P ⟨some d, .binOp .add T x y T',ty,pos,af,g⟩ s (s.put d (lf (.val (.int .u64 (IntKind.u64.wrap (a+b)))))):=
  Qr rfl hn fun gh a' w r=>by
    have h1:a'.eval x= .int .u64 a:=hx gh a' w r
    have h2:a'.eval y= .int .u64 b:=hy gh a' w r
    refine ⟨_, ?_,_,rfl,rfl⟩
    simp only[execOp,h1,h2,eqGuard_at_int,binOp,Op.intArith]
    simp
theorem Qf5 (hx:Evl A s x (.val (.int .u64 a)))(hy:Evl A s y (.val (.int .u64 b)))(hn:Nat.blt d A.n=true):Does A P ⟨some d, .binOp .and T x y T',ty,pos,af,g⟩ s (s.put d (lf (.val (.int .u64 (bits .and .u64 a b))))):=
  Qr rfl hn fun gh a' w r=>by
    have h1:a'.eval x= .int .u64 a:=hx gh a' w r
    have h2:a'.eval y= .int .u64 b:=hy gh a' w r
    have h3:Op.intBits .and .u64 a b=pure (.int .u64 (bits .and .u64 a b)):=rfl
    refine ⟨_, ?_,_,rfl,rfl⟩
    simp only[execOp,h1,h2,eqGuard_at_int,binOp,h3]
    simp
theorem Qf6 {k:IntKind}(hx:Evl A s x (.val (.int .u64 a)))(hy:Evl A s y (.val (.int k b)))(hn:Nat.blt d A.n=true)(h0:0≤b∧b≤62):Does A P ⟨some d, .binOp .shr T x y T',ty,pos,af,g⟩ s (s.put d (lf (.val (.int .u64 (a / 2 ^ b.toNat))))):=
  Qr rfl hn fun gh a' w r=>by
    have h1:a'.eval x= .int .u64 a:=hx gh a' w r
    have h2:a'.eval y= .int k b:=hy gh a' w r
    have h3:Op.shift .shr .u64 a k b=pure (.int .u64 (a / 2 ^ b.toNat)):=by
      rw[shift_shr_any _ _ _ _ h0.1,show IntKind.u64.bits=64 from rfl,cc (by omega)]
    refine ⟨_, ?_,_,rfl,rfl⟩
    simp only[execOp,h1,h2,eqGuard_at_int,binOp,h3]
    simp
theorem Qmu {n:UInt8}(hx:Evl A s x (.dat .u8 n))(hs:P.underlying T=some (.int .u8))(hd:P.underlying T'=some (.int .i64))(hn:Nat.blt d A.n=true):
    Does A P ⟨some d, .convert T T' x,ty,pos,af,g⟩ s (s.put d (lf (dI n.toNat))):=
  Qr rfl hn fun gh a w r=>by
    have h2:a.eval x= .int .u8 n.toNat:=by
      have h3:Rd gh.N .u8 w [a.eval x] n:=hx gh a w r
      have h4:[a.eval x]=[.int .u8 n.toNat]:=h3.rep
      simpa using h4
    have hb:n.toNat < 256:=n.toNat_lt
    have e2:IntKind.i64.wrap (n.toNat:Int)=(n.toNat:Int):=IntWalk.i64_in _ (by omega)
    refine ⟨.int .i64 n.toNat, ?_,_,rfl,Y3 (by omega)⟩
    simp only[execOp,h2,convert,run_underlying hs,run_underlying hd,ax,aE,Conv.intToInt,e2]
    simp
end
theorem Trd.u8 {P:Program}{T:TypeId}(h:P.underlying T=some (.int .u8))(hc:P.cellsOf T=1):Trd P T .u8:=⟨hc,fun enc w base spare held fuel cs x hx=>by
  obtain ⟨n,rfl,_,hw⟩:=DataW.trod_int h hx
  simp[Lit.wf] at hw
  have hu1:IntKind.u8.min=0:=rfl
  have hu2:IntKind.u8.max=255:=rfl
  rw[hu1,hu2] at hw
  refine ⟨UInt8.ofNat n.toNat, ?_⟩
  have e1:(UInt8.ofNat n.toNat).toNat=n.toNat:=by
    rw[UInt8.toNat_ofNat']
    exact cA (by omega)
  show [Value.int .u8 n]=[Value.int .u8 ((UInt8.ofNat n.toNat).toNat:Nat)]
  rw[e1,cy (by omega)]⟩
def QsR (P:Program)(T:TypeId)(offs:List (Nat×Nat))(zs:List Value):Prop:=
  ∃fs,P.underlying T=some (.struct fs)∧(∀w,(fs.mapM fun (f:Field)=>do pure (f.offset,← sizeOf f.type)).run P w= .ok offs.toArray w)∧zer P T=some (.agg zs.toArray)
theorem Qhg {P:Program}{T:TypeId}{fs:List Field}{offs:List (Nat×Nat)}{zs:List Value}(hu:P.underlying T=some (.struct fs.toArray))(hp:plB P fs offs=true)(hz:zer P T=some (.agg zs.toArray)):QsR P T offs zs:=
  ⟨_,hu,fun w=>by
    rw[List.mapM_toArray]
    have:=QaX (P:=P) (w:=w) hp
    simp only[map_eq_pure_bind,ax,this,aE,b6],hz⟩
section
variable {A:Amb}{P:Program}{s:St}{d:Nat}{T ty:TypeId}{pos:String}{af:Array Edge}{g:Option (Nat×Bool)}
theorem Jx {zs:List Value}(zl:List LV){offs:List (Nat×Nat)}{parts:Array (Nat×Operand)}{css:List (Bool×List LV)}{ls:List LV}(hb:QsR P T offs zs)(hz0:∀al gh w,LVs al gh w zl zs)(hv:EvL A s (parts.toList.map (·.2)) css)(hok:∀c∈css,ZB s.tab c.2=true)
    (hf:QfJ offs zl ((parts.toList.map (·.1)).zip (css.map (·.2)))=some ls) (hn:Nat.blt d A.n=true):Does A P ⟨some d, .build T parts,ty,pos,af,g⟩ s (s.put d (ag ls)):=
  Qr rfl hn fun gh a w r=>by
    obtain ⟨fs,h1,h2,h3⟩:=hb
    have hvs:=hv.cms r
    have hlen:=hvs.len
    generalize hV:(parts.toList.map (·.2)).map a.eval=vs at*
    have hpl:parts.toList.length=vs.length:=by rw[← hV]; simp
    have hcells:∀(cs:List (Bool×List LV)) (vs:List Value),CmsR s.tab.al gh w cs vs→(∀c∈cs,ZB s.tab c.2=true)→∀(i:Nat) (c:Bool×List LV) (v:Value),cs[i]? =some c→vs[i]? =some v→∃us,v.cells=us.toArray∧LVs s.tab.al gh w c.2 us:=by
      intro cs
      induction cs with
      | nil=>intro vs _ _ i c v h; simp at h
      | cons c cs ih=>
        rintro vs ⟨v,vs',rfl,k1,k2⟩ hok i c' v' hc hv'
        cases i with
        | zero=>
          simp at hc hv'
          subst hc; subst hv'
          have hc:=hok c (aA ..)
          obtain ⟨b,ls⟩:=c
          exact CmR.cells k1 fun hb=>by
            subst hb
            obtain ⟨l,rfl,q1⟩:=k1
            simp only[ZB,cM] at hc
            obtain ⟨h3,h4⟩:=VS hc
            exact q1.oneCell h4 h3 fun q ⟨e,he⟩=>(r.cx.en q e he).oneCell
        | succ i=>exact ih vs' k2 (fun c hc=>hok c (aD _ hc)) i c' v' (by simpa using hc) (by simpa using hv')
    have hzl:((parts.toList.map (·.1)).zip (css.map (·.2))).length=vs.length:=by rw[List.length_zip,av,av]; omega
    obtain ⟨cur',k1,k2⟩:=QbL (al:=s.tab.al) (gh:=gh) (w:=w) (cur:=zs.toArray) hf hzl.symm (fun i p v hp hv'=>by
      have hi:=List.getElem?_zip_eq_some.1 hp
      have h5:=hi.2
      rw[bj] at h5
      obtain ⟨c',h6,h7⟩:=bE.1 h5
      rw[← h7]
      exact hcells css vs hvs hok i c' v h6 hv') (by simpa using hz0 s.tab.al gh w)
    refine ⟨.agg cur', ?_,cur'.toList,by simp,k2⟩
    have hz:(((parts.toList.map (·.1)).zip (css.map (·.2))).map (·.1)).zip vs=(parts.map fun p=>(p.1,a.eval p.2)).toList:=by
      rw[List.map_fst_zip (by rw[av,av]; omega),cU,← hV,cG]
      generalize parts.toList=pl
      induction pl with
      | nil=>rfl
      | cons p ps ih=>simp[ih]
    rw[hz] at k1
    simp only[execOp,Instr.build,ax,Ud h3,aE,run_underlying h1,h2,Value.cells]
    rw[k1]
    simp
end
end Go.Proofs.YtjaadeknhofhpaaGreat
