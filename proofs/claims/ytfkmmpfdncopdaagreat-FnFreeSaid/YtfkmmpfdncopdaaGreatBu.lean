/- Abstract states: calls of which a property of the answer alone is known. No program is named here. -/
import Derived.Test.YtfkmmpfdncopdaaGreatAv
import Derived.Test.YtfkmmpfdncopdaaGreatCq
import Derived.Test.YtfkmmpfdncopdaaGreatBc
import Derived.Test.YtfkmmpfdncopdaaGreatWv
import Derived.Laws.Bits64b
set_option linter.unusedSimpArgs false
set_option linter.unusedVariables false
set_option linter.unusedSectionVars false
namespace Go.Proofs.YtfkmmpfdncopdaaGreat
open Go.RowKit
@[reducible] def Ex {X:Type} (Q:X→Prop) (pv:X→PV) (T:X→Tab):PV→Tab→Prop:=fun p T'=>∃x,Q x∧p=pv x∧T'=T x
section
variable {A:Amb}{P:Program}{s:St}{f:FuncId}{xs:List Operand}{tys:Array TypeId}{args:List (Bool×List LV)}{d:Nat}{ty:TypeId}{pos:String}{af:Array Edge}{g:Option (Nat×Bool)}{T:Tab}{k:Nat}
  {X:Type} {Qx:X→Prop} {pv:X→PV} {T':X→Tab} {ops:Array Oper} {l:List Oper} {Q:Exit→St→Prop}
theorem DoesT.callX (n:Nat)(ρ:List (Nat×Nat))(hc:FC P f args T k (Ex Qx pv T'))(hE:Qf P f)(ha:EvL A s xs (args.map fun c=>(c.1,c.2.map (LV.ren (rn ρ)))))(hT:HasE s ρ T)
    (hi:(XN (T.map fun p=>rn ρ p.1)&&Nat.blt d A.n)=true) (hB:∀x,(Yd (pv x) (T' x)&&XN ((T' x).map fun p=>sg ρ k n p.1)&&Qex T (T' x) k)=true) (hfr:∀x,FrK s n k (Zr (T' x))) (hk0:A.k0≤n):
    DoesT A P ⟨some d, .call ⟨.value (.func f),xs.toArray,tys⟩,ty,pos,af,g⟩ s (fun s'=>∃x,Qx x∧s'=s.backP d (sg ρ k n) (T.map fun p=>rn ρ p.1) (pv x) (T' x)):=fun a w K Q r hK=>by
  obtain ⟨gh,r⟩:=r
  rw[aN] at hi
  obtain ⟨hi,hn⟩:=hi
  have hal:∀q,T.al q→s.tab.al (rn ρ q):=fun q ⟨e,h⟩=>⟨_,hT.get h⟩
  have hinj:∀q q',T.al q→T.al q'→rn ρ q=rn ρ q'→q=q':=fun q q' h1 h2 h=>V9 hi h1 h2 h
  have cx0:Cx T (gh.via (rn ρ)) w:=⟨fun q e h=>(EntR.ren.1 (r.cx.en _ _ (hT.get h))).mono (fun r' _ h'=>⟨hal r' h',rfl⟩) (fun g hg=>⟨hg,rfl⟩) rfl rfl fun _ _=>rfl,
    fun q q' h1 h2 hne=>r.cx.dj _ _ (hal q h1) (hal q' h2) fun h=>hne (hinj q q' h1 h2 h),fun q h=>r.cx.nd _ (hal q h),fun q h=>r.cx.no _ (hal q h),r.cx.nl⟩
  have hv:=(CmsR.ren.1 (ha.cms r)).mono (al':=T.al) (gh':=gh.via (rn ρ)) (w':=w) (fun q _ h=>⟨hal q h,rfl⟩) fun g hg=>⟨hg,rfl⟩
  refine Un hE rfl (Calls.mono (hc _ w _ cx0 hv) fun e w' he=> ?_)
  obtain ⟨v,pv',T2,gh',rfl,⟨x,hq,rfl,rfl⟩,cx,hp,fr,hkk⟩:=he
  have h2:=hB x
  simp only[aN] at h2
  refine hK _ _ _ ⟨x,hq,rfl⟩ (QeW n ρ r hT hi h2.1.1 h2.1.2 (fun q ⟨e,hq⟩ hk=> ?_) (fun q ⟨e,hq⟩ hk=>(hfr x).get q (Za hq).1 hk) hk0 hn cx hp fr hkk)
  have:=aw.1 h2.2 q (Za hq).1
  rw[show Nat.blt q k=true from co hk] at this
  exact b6.1 (by simpa using this)
theorem Q4 (n:Nat)(ρ:List (Nat×Nat))(hc:FC P f args T k (Ex Qx pv T'))(hE:Qf P f)(ha:EvL A s xs (args.map fun c=>(c.1,c.2.map (LV.ren (rn ρ)))))(hT:HasE s ρ T)
    (hi:(XN (T.map fun p=>rn ρ p.1)&&Nat.blt d A.n)=true) (hB:∀x,(Yd (pv x) (T' x)&&XN ((T' x).map fun p=>sg ρ k n p.1)&&Qex T (T' x) k)=true) (hfr:∀x,FrK s n k (Zr (T' x))) (hk0:A.k0≤n)
    (h:∀x,Qx x→AL A P ops l Q (s.backP d (sg ρ k n) (T.map fun p=>rn ρ p.1) (pv x) (T' x))):AL A P ops (⟨some d, .call ⟨.value (.func f),xs.toArray,tys⟩,ty,pos,af,none⟩ :: l) Q s:=
  QlP rfl (DoesT.callX n ρ hc hE ha hT hi hB hfr hk0) fun s' ⟨x,hq,e⟩=>e▸h x hq
theorem QJ {fn:Func}{s:St}(x:X)(ρ:List (Nat×Nat)){pv0:PV}(hq:Qx x)(h1:Res A P fn s pv0)(h0:pv0=(pv x).ren (rn ρ))(h2:HasE ⟨[],s.tab⟩ ρ (T' x))(h3:XN ((T' x).map fun x=>rn ρ x.1)=true)(h4:idB ρ k=true):fin A P fn (Kx (Ex Qx pv T') k) .ret s:=
  HH (pv x) (T' x) ρ (h0▸h1) h2 h3 h4 ⟨x,hq,rfl,rfl⟩
end
theorem FC.frozenX {P:Program}{f:FuncId}{args:List (Bool×List LV)}{X:Type}{Q:X→Prop}{pv:X→PV}{T:X→Tab}(h:FC P f args [] 0 (Ex Q pv T)):FC P f args [] 0 (Ex Q (fun x=>(pv x).thaw (T x)) (fun _=>[])):=fun gh w vs cx ha=>
  Calls.mono (h gh w vs cx ha) fun e' w' he=>by
    obtain ⟨v,pv',T',gh',rfl,⟨x,hq,rfl,rfl⟩,cx',hp,fr,_⟩:=he
    refine ⟨v,_,[],_,rfl,⟨x,hq,rfl,rfl⟩,XF Zv _ _ fun g hg=> ?_,hp.thaw cx',⟨fr.gw,fr.kp,fun g hg=> ?_,fun q hq=>absurd hq (Zv q)⟩,fun q hq=>absurd hq (by omega)⟩
    · rcases hg with hg | ⟨q, hq, hg⟩
      · exact cx'.nl g hg
      · exact cx'.lt hq g hg
    · rcases hg with hg | ⟨q, hq, hg⟩
      · exact fr.nn g hg
      · rcases fr.ox q hq g hg with h | ⟨q', h, _⟩
        · exact .inr (.inl h)
        · exact absurd h (Zv q')
section
variable {A:Amb}{P:Program}{s:St}{f:FuncId}{xs:List Operand}{tys:Array TypeId}{args:List (Bool×List LV)}{d:Nat}{ty T:TypeId}{pos:String}{af:Array Edge}{g:Option (Nat×Bool)}
  {X:Type} {Qx:X→Prop} {pv:X→PV} {ops:Array Oper} {l:List Oper} {Q:Exit→St→Prop} {x:Operand}
end
end Go.Proofs.YtfkmmpfdncopdaaGreat
namespace Go.Proofs.YtfkmmpfdncopdaaGreat
open Go.RowKit
set_option maxRecDepth 100000
set_option maxHeartbeats 4000000
def spS (s:ByteArray)(b:UInt8):Nat→List ByteArray×Int
  | 0=>([],0)
  | i+1=>if s[i]? =some b then ((spS s b i).1++[s.extract (spS s b i).2.toNat i],(i:Int)+1) else spS s b i
def Zt (s:ByteArray)(b:UInt8):List ByteArray:=(spS s b s.size).1++[s.extract (spS s b s.size).2.toNat s.size]
section
variable {s:ByteArray}{b c:UInt8}{i:Nat}
theorem Qns (h:s[i]? =some c)(e:c=b):((spS s b i).1++[s.extract (spS s b i).2.toNat i],(i:Int)+1)=spS s b (i+1):=by rw[spS,if_pos (by rw[h,e])]
theorem Qo6 (h:s[i]? =some c)(e:¬c=b):spS s b i=spS s b (i+1):=by rw[spS,if_neg (by rw[h]; simpa using e)]
theorem Qig:0≤(spS s b i).2∧(spS s b i).2≤(i:Int)∧(spS s b i).1.length≤i:=by
  induction i with
  | zero=>exact ⟨d8 _,d8 _,aO _⟩
  | succ i ih=>
    rw[spS]
    split
    · refine ⟨by show (0 : Int) ≤ (i : Int) + 1; omega, by show ((i : Int) + 1) ≤ ((i + 1 : Nat) : Int); omega, ?_⟩
      rw[ak,aq,aD]; omega
    · obtain ⟨h1,h2,h3⟩:=ih; exact ⟨h1,by omega,by omega⟩
theorem Qik:(Zt s b).length≤s.size+1:=by
  unfold Zt
  have:=Qig (s:=s) (b:=b) (i:=s.size)
  rw[ak,aq,aD]; omega
end
abbrev DTr:=List Int×List Int
abbrev DB:=Zk×List ByteArray×List ByteArray
def b0 (t:ByteArray):UInt8:=(t[0]?).getD 0
def bZ (t:ByteArray):UInt8:=(t[t.size - 1]?).getD 0
def UW (l:List ByteArray)(x:ByteArray):Bool:=l.any fun y=>decide (y=x)
def atB (l:List ByteArray)(x:ByteArray):Int:=if UW l x=true then Zb (fun y=>decide (y=x)) l else (l.length:Int)
def plV (b:DB)(name:ByteArray):DB:=if UW b.2.1 name=true then b else (((b.1.1.1+1,b.1.1.2),b.1.2.1,b.1.2.2.1,b.1.2.2.2++(⟨#[48]⟩:ByteArray)),b.2.1++[name],b.2.2)
def plI (b:DB)(name:ByteArray):Int:=atB b.2.1 name
def KO (word:ByteArray):ByteArray:=((Zt word 47)[0]?).getD ByteArray.empty
def Qgk (G:List Qy)(word:ByteArray):ZA:=if b0 (KO word)=126 then (-1,false) else (Zb (fun g=>decide (g.1=(KO word).extract 0 ((KO word).size - 1))) G,decide (bZ (KO word)=43))
def Zg (b:DB)(word:ByteArray):DB:=if UW b.2.2 word=true then b else (((b.1.1.1,b.1.1.2++[([],[])]),b.1.2.1,b.1.2.2.1++[Qgk b.1.2.1 word],b.1.2.2.2),b.2.1,b.2.2++[word])
def trI (b:DB)(word:ByteArray):Int:=atB b.2.2 word
def UX (text:ByteArray):ByteArray:=if b0 text=42 then text.extract 1 text.size else text
def YN (text:ByteArray)(k:Nat):ByteArray:=((Zt (UX text) 62)[k]?).getD ByteArray.empty
def KR (text:ByteArray):ByteArray:=if b0 (YN text 1)=95 then YN text 1 else if b0 (YN text 0)=95 then YN text 0 else UX text
def QaM (T:List DTr)(t p:Int):List DTr:=T.modify t.toNat fun x=>(x.1,Q2 ltI p x.2)
def QaU (T:List DTr)(t p:Int):List DTr:=T.modify t.toNat fun x=>(Q2 ltI p x.1,x.2)
def ar1 (p:Int)(b:DB)(text:ByteArray):DB:=if b0 (YN text 0)=95 then b else
  let c:=Zg b (YN text 0); (((c.1.1.1,QaM c.1.1.2 (trI b (YN text 0)) p),c.1.2.1,c.1.2.2.1,c.1.2.2.2),c.2.1,c.2.2)
def ar2 (p:Int)(b:DB)(text:ByteArray):DB:=if b0 (YN text 1)=95 then b else
  let c:=Zg b (YN text 1); (((c.1.1.1,QaU c.1.1.2 (trI b (YN text 1)) p),c.1.2.1,c.1.2.2.1,c.1.2.2.2),c.2.1,c.2.2)
def QlF (s:ByteArray)(p:Int):ByteArray:=s.extract 0 p.toNat++(⟨#[49]⟩:ByteArray)++s.extract (p+1).toNat s.size
def arV (b:DB)(text:ByteArray):DB:=
  let p:=plI b (KR text)
  let c:=ar2 p (ar1 p (plV b (KR text)) text) text
  if b0 text=42 then ((c.1.1,c.1.2.1,c.1.2.2.1,QlF c.1.2.2.2 p),c.2.1,c.2.2) else c
def sgN (names:ByteArray)(kd:Int)(i:Nat):List Qy:=(List.range i).map fun j=>(names.extract j (j+1),kd)
def sgA:List ByteArray→Int→List Qy
  | [],_=>[]
  | n :: l,k=>sgN n k n.size++sgA l (k+1)
def buG (ins outs inner:ByteArray):List Qy:=sgA [ins,outs,inner] 1
def buB (G:List Qy)(arcs:ByteArray):DB:=(Zt arcs 32).foldl arV (((0,[]),G,[],ByteArray.empty),[],[])
def Qq (ins outs inner arcs:ByteArray):Zk:=(buB (buG ins outs inner) arcs).1
def okW (w:ByteArray):Bool:=decide (1≤w.size)&&(decide (b0 w=95)||decide (1≤(KO w).size))
def okA (t:ByteArray):Bool:=decide (1≤t.size)&&(decide (2≤(Zt (UX t) 62).length)&&(okW (YN t 0)&&okW (YN t 1)))
section
variable {l:List ByteArray}{x name word text:ByteArray}{b c:DB}{G:List Qy}{n k:Nat}
theorem Qng {α:Type _}{f:α→Bool}{l:List α}(h:l.any f=true):0≤Zb f l∧Zb f l < (l.length:Int):=by
  have h1:=Xz f l
  rw[h,aT] at h1
  refine ⟨h1, ?_⟩
  unfold Zb at*
  cases hf:l.findIdx? f with
  | none=>rw[hf] at h1; simp at h1
  | some i=>
    have:=(bT.1 hf).1
    simpa using this
theorem Qld (h:UW l x=true):0≤atB l x∧atB l x < (l.length:Int):=by
  unfold atB; rw[if_pos h]; exact Qng h
theorem Jd (h:UW l x=false):atB l x=(l.length:Int):=if_neg (by rw[h]; decide)
theorem QkG (hn:NoneTo (fun y=>decide (y=x)) l k){y:ByteArray}(hx:l[k]? =some y)(e:y=x):(k:Int)=atB l x:=by
  unfold atB
  have h1:UW l x=true:=Qle hx (aJ e)
  rw[if_pos h1,hn.at hx (aJ e)]
theorem Yt {y:ByteArray}(hx:l[k]? =some y)(e:y=x):UW l x=true:=Qle hx (aJ e)
theorem ZO (hn:NoneTo (fun y=>decide (y=x)) l k)(hk:l.length≤k):UW l x=false:=hn.any_no hk
theorem Vv (h:UW b.2.1 name=true):plV b name=b:=if_pos h
theorem X1 (h:UW b.2.1 name=false):plV b name=(((b.1.1.1+1,b.1.1.2),b.1.2.1,b.1.2.2.1,b.1.2.2.2++(⟨#[48]⟩:ByteArray)),b.2.1++[name],b.2.2):=if_neg (by rw[h]; decide)
theorem X4 (h:UW b.2.2 word=true):Zg b word=b:=if_pos h
theorem ZK (h:UW b.2.2 word=false):Zg b word=(((b.1.1.1,b.1.1.2++[([],[])]),b.1.2.1,b.1.2.2.1++[Qgk b.1.2.1 word],b.1.2.2.2),b.2.1,b.2.2++[word]):=if_neg (by rw[h]; decide)
structure DBJ (b:DB) (p w m:Nat):Prop where
  st:b.1.2.2.2.size=b.2.1.length
  tr:b.1.1.2.length=b.2.2.length
  la:b.1.2.2.1.length=b.2.2.length
  p0:b.1.1.1=(b.2.1.length:Int)
  pl:b.2.1.length≤p
  ws:b.2.2.length≤w
  inn:∀t∈b.1.1.2,t.1.length≤m∧t.2.length≤m
theorem Qif:0≤plI b name∧plI b name < ((plV b name).2.1.length:Int):=by
  unfold plI
  cases h:UW b.2.1 name with
  | true=>rw[Vv h]; exact Qld h
  | false=>rw[X1 h,Jd h,ak]; simp only[aq,aD]; omega
theorem Qhq:0≤trI b word∧trI b word < ((Zg b word).2.2.length:Int):=by
  unfold trI
  cases h:UW b.2.2 word with
  | true=>rw[X4 h]; exact Qld h
  | false=>rw[ZK h,Jd h,ak]; simp only[aq,aD]; omega
theorem Qb1:(Zg b word).1.1.1=b.1.1.1∧(Zg b word).1.2.1=b.1.2.1∧(Zg b word).1.2.2.2=b.1.2.2.2∧(Zg b word).2.1=b.2.1:=by unfold Zg; split <;> exact ⟨rfl,rfl,rfl,rfl⟩
theorem DBJ.pl_ {p w m:Nat}(h:DBJ b p w m):DBJ (plV b name) (p+1) w m:=by
  cases hi:UW b.2.1 name with
  | true=>rw[Vv hi]; exact ⟨h.st,h.tr,h.la,h.p0,cJ h.pl,h.ws,h.inn⟩
  | false=>
    rw[X1 hi]
    have hs:(⟨#[48]⟩:ByteArray).size=1:=rfl
    refine ⟨?_,h.tr,h.la, ?_, ?_,h.ws,h.inn⟩
    · show (b.1.2.2.2 ++ (⟨#[48]⟩ : ByteArray)).size = (b.2.1 ++ [name]).length
      rw[aK,ak,h.st,hs]; rfl
    · show b.1.1.1 + 1 = ((b.2.1 ++ [name]).length : Int)
      rw[ak,h.p0]; simp
    · show (b.2.1 ++ [name]).length ≤ p + 1
      rw[ak]; have:=h.pl; simp only[aq,aD]; omega
theorem DBJ.tr_ {p w m:Nat}(h:DBJ b p w m):DBJ (Zg b word) p (w+1) m:=by
  cases hi:UW b.2.2 word with
  | true=>rw[X4 hi]; exact ⟨h.st,h.tr,h.la,h.p0,h.pl,cJ h.ws,h.inn⟩
  | false=>
    rw[ZK hi]
    refine ⟨h.st, ?_, ?_,h.p0,h.pl, ?_, ?_⟩
    · show (b.1.1.2 ++ [([], [])]).length = (b.2.2 ++ [word]).length
      rw[ak,ak,h.tr]; rfl
    · show (b.1.2.2.1 ++ [Qgk b.1.2.1 word]).length = (b.2.2 ++ [word]).length
      rw[ak,ak,h.la]; rfl
    · show (b.2.2 ++ [word]).length ≤ w + 1
      rw[ak]; have:=h.ws; simp only[aq,aD]; omega
    · intro t ht
      rcases aH.1 ht with ht | ht
      · exact h.inn t ht
      · rw[aE.1 ht]; exact ⟨aS _,aS _⟩
theorem Qh3 {T:List DTr}{m i:Nat}{f:DTr→DTr}(h:∀t∈T,t.1.length≤m∧t.2.length≤m)(hf:∀t,(f t).1.length≤t.1.length+1∧(f t).2.length≤t.2.length+1):∀t∈T.modify i f,t.1.length≤m+1∧t.2.length≤m+1:=fun t ht=>by
  obtain ⟨j,hj⟩:=aM.1 ht
  rw[cv] at hj
  cases hT:T[j]? with
  | none=>rw[hT] at hj; cases hj
  | some u=>
    rw[hT] at hj
    have hu:=h u (ao hT)
    have h1:=hf u
    have hj:some (if i=j then f u else u)=some t:=hj
    cases hj
    split <;> omega
theorem DBJ.st_ {p w m:Nat}{q:Int}(h:DBJ b p w m)(hq:0≤q∧q < (b.2.1.length:Int)):DBJ ((b.1.1,b.1.2.1,b.1.2.2.1,QlF b.1.2.2.2 q),b.2.1,b.2.2) p w m:=by
  refine ⟨?_,h.tr,h.la,h.p0,h.pl,h.ws,h.inn⟩
  have hs:(⟨#[49]⟩:ByteArray).size=1:=rfl
  have h1:=h.st
  show (QlF b.1.2.2.2 q).size=b.2.1.length
  unfold QlF
  simp only[aK,aL,hs]
  omega
theorem DBJ.more {p w m p' w' m':Nat}(h:DBJ b p w m)(h1:p≤p')(h2:w≤w')(h3:m≤m'):DBJ b p' w' m':=⟨h.st,h.tr,h.la,h.p0,bn h.pl h1,bn h.ws h2,fun t ht=>⟨bn (h.inn t ht).1 h3,bn (h.inn t ht).2 h3⟩⟩
theorem DBJ.ar1_ {p w m:Nat}{q:Int}(h:DBJ b p w m):DBJ (ar1 q b text) p (w+1) (m+1):=by
  unfold ar1
  split
  · exact h.more (aO _) (by omega) (by omega)
  · have k := h.tr_ (word := YN text 0)
    exact ⟨k.st,(List.length_modify ..).trans k.tr,k.la,k.p0,k.pl,k.ws,Qh3 k.inn fun t=>⟨Nat.le_succ _,Qbt _ _⟩⟩
theorem DBJ.ar2_ {p w m:Nat}{q:Int}(h:DBJ b p w m):DBJ (ar2 q b text) p (w+1) (m+1):=by
  unfold ar2
  split
  · exact h.more (aO _) (by omega) (by omega)
  · have k := h.tr_ (word := YN text 1)
    exact ⟨k.st,(List.length_modify ..).trans k.tr,k.la,k.p0,k.pl,k.ws,Qh3 k.inn fun t=>⟨Qbt _ _,Nat.le_succ _⟩⟩
theorem Qkf {q:Int}:(ar1 q b text).2.1=b.2.1:=by unfold ar1; split; exact rfl; exact Qb1.2.2.2
theorem Qj3 {q:Int}:(ar2 q b text).2.1=b.2.1:=by unfold ar2; split; exact rfl; exact Qb1.2.2.2
theorem DBJ.ar_ {p w m:Nat}(h:DBJ b p w m):DBJ (arV b text) (p+1) (w+2) (m+2):=by
  have k1:=h.pl_ (name:=KR text)
  have k2:=k1.ar1_ (q:=plI b (KR text)) (text:=text)
  have k3:=k2.ar2_ (q:=plI b (KR text)) (text:=text)
  unfold arV
  dsimp only
  split
  · exact k3.st_ (by rw[Qj3,Qkf]; exact Qif)
  · exact k3
theorem DBJ.zero (G:List Qy):DBJ (((0,[]),G,[],ByteArray.empty),[],[]) 0 0 0:=⟨rfl,rfl,rfl,rfl,aO _,aO _,fun t h=>by cases h⟩
end
end Go.Proofs.YtfkmmpfdncopdaaGreat
namespace Go.Proofs.YtfkmmpfdncopdaaGreat
open Go.RowKit
set_option maxRecDepth 100000
set_option maxHeartbeats 4000000
def fbS:Zk:=((4,[([3],[0]),([0],[1]),([1],[2]),([2],[3])]),[(⟨#[97]⟩,1),(⟨#[98]⟩,2)],[(0,true),(1,true),(0,false),(1,false)],⟨#[48,48,48,49]⟩)
theorem Qo2:Qq ⟨#[97]⟩ ⟨#[98]⟩ ⟨#[]⟩ ⟨#[97,43,62,98,43,32,98,43,62,97,45,32,97,45,62,98,45,32,42,98,45,62,97,43]⟩=fbS:=by decide+kernel
theorem QhQ {x hi:Int}(h:0≤x∧x≤hi):Uj [x] hi:=by
  intro k hk
  have:k=0:=by simpa using hk
  subst this
  unfold RisAt
  simp
  omega
theorem QhT {c:UInt8}(h:ZY 0 c.toNat):QaJ ⟨#[c]⟩:=by
  refine ⟨fun k hk=> ?_,aO _,by show (1:Nat)≤6; omega⟩
  have h1:k < 1:=hk
  have:k=0:=by omega
  subst this
  exact h
theorem Qo5:StgOk fbS:=by
  refine ⟨⟨⟨by decide,by decide⟩,by decide,fun t ht=> ?_⟩,⟨fun k hk x hx=> ?_,by decide,by decide⟩,rfl,fun l hl=> ?_,fun k hk h=> ?_,rfl⟩
  · simp only [fbS, aC, cC, or_false] at ht
    rcases ht with rfl | rfl | rfl | rfl <;> exact ⟨by simp,QhQ (by show _∧_≤(4:Int) - 1; omega),QhQ (by show _∧_≤(4:Int) - 1; omega)⟩
  · have h2 : k < 2 := hk
    rcases (show k=0∨k=1 by omega) with rfl | rfl
    · cases hx
      exact ⟨QhT (by unfold ZY; decide),by decide,fun j y hj=>absurd hj (bc j)⟩
    · cases hx
      refine ⟨QhT (by unfold ZY; decide),by decide,fun j y hj hy=> ?_⟩
      have:j=0:=by omega
      subst this
      cases hy
      decide
  · simp only [fbS, aC, cC, or_false] at hl
    rcases hl with rfl | rfl | rfl | rfl <;> exact .inl (by decide)
  · have h4 : k < 4 := hk
    rcases (show k=0∨k=1∨k=2∨k=3 by omega) with rfl | rfl | rfl | rfl <;> first | exact .inl rfl | exact .inr rfl
theorem Qo7 [∀s,Decidable (StgOk s)]:(sgV fbS).2=true:=by
  have he:Qh fbS=(((Zn fbS).1.1,(Zn fbS).1.2.1),true):=if_pos ⟨Qo5,by decide+kernel⟩
  obtain ⟨c,hc⟩:=b6.1 (show (goS (Zn fbS).1.1.length (Qu fbS.2.2.1 (Zn fbS).1.2.1) fbS.2.1.length 0 (List.replicate (Zn fbS).1.1.length ByteArray.empty)).isSome=true by decide+kernel)
  have h2:¬(4000:Int) < ((Zn fbS).1.2.1.length:Int):=by decide+kernel
  rw[Ji (s:=fbS) (c:=c) (by rw[he]) (by rw[he]; exact h2) (by rw[he]; exact hc)]
end Go.Proofs.YtfkmmpfdncopdaaGreat
namespace Go.Proofs.YtfkmmpfdncopdaaGreat
open Go.RowKit
theorem Vd (n:Int):0≤IntKind.u64.wrap n∧IntKind.u64.wrap n < 18446744073709551616:=by
  simp only[IntKind.wrap,IntKind.bits,IntKind.signed]
  simp
  omega
theorem Uk {a:Int}(h:0≤a∧a < 18446744073709551616):0≤a / 2 ^ 40∧a / 2 ^ 40 < 18446744073709551616:=by omega
theorem Qa5 {a:Int}(h:0≤a∧a < 18446744073709551616):0≤bits BinOp.and IntKind.u64 a 255∧bits BinOp.and IntKind.u64 a 255≤255:=by
  have h1:=bits_and_u64_nat a.toNat 255 (by omega) (by decide)
  rw[show ((a.toNat:Nat):Int)=a by omega,show ((255:Nat):Int)=255 from rfl] at h1
  have h2:a.toNat &&& 255≤255:=Nat.and_le_right
  rw[h1]
  omega
section
variable {A:Amb}{P:Program}{s:St}{x y:Operand}{d:Nat}{T T' ty:TypeId}{pos:String}{af:Array Edge}{g:Option (Nat×Bool)}{a b:Int}
theorem Qct (hx:Evl A s x (.val (.int .u64 a)))(hy:Evl A s y (.val (.int .u64 b)))(hn:Nat.blt d A.n=true):Does A P ⟨some d, .binOp .mul T x y T',ty,pos,af,g⟩ s (s.put d (lf (.val (.int .u64 (IntKind.u64.wrap (a*b)))))):=
  Qe rfl hn fun gh a' w r=>by
    have h1:a'.eval x= .int .u64 a:=hx gh a' w r
    have h2:a'.eval y= .int .u64 b:=hy gh a' w r
    refine ⟨_, ?_,_,rfl,rfl⟩
    simp only[execOp,h1,h2,eqGuard_at_int,binOp,Op.intArith]
    simp
theorem UE (hx:Evl A s x (.val (.int .u64 a)))(hy:Evl A s y (.val (.int .u64 b)))(hn:Nat.blt d A.n=true):Does A P ⟨some d, .binOp .add T x y T',ty,pos,af,g⟩ s (s.put d (lf (.val (.int .u64 (IntKind.u64.wrap (a+b)))))):=
  Qe rfl hn fun gh a' w r=>by
    have h1:a'.eval x= .int .u64 a:=hx gh a' w r
    have h2:a'.eval y= .int .u64 b:=hy gh a' w r
    refine ⟨_, ?_,_,rfl,rfl⟩
    simp only[execOp,h1,h2,eqGuard_at_int,binOp,Op.intArith]
    simp
theorem QbS (hx:Evl A s x (.val (.int .u64 a)))(hy:Evl A s y (.val (.int .u64 b)))(hn:Nat.blt d A.n=true):Does A P ⟨some d, .binOp .and T x y T',ty,pos,af,g⟩ s (s.put d (lf (.val (.int .u64 (bits .and .u64 a b))))):=
  Qe rfl hn fun gh a' w r=>by
    have h1:a'.eval x= .int .u64 a:=hx gh a' w r
    have h2:a'.eval y= .int .u64 b:=hy gh a' w r
    have h3:Op.intBits .and .u64 a b=pure (.int .u64 (bits .and .u64 a b)):=rfl
    refine ⟨_, ?_,_,rfl,rfl⟩
    simp only[execOp,h1,h2,eqGuard_at_int,binOp,h3]
    simp
theorem Qcj {k:IntKind}(hx:Evl A s x (.val (.int .u64 a)))(hy:Evl A s y (.val (.int k b)))(hn:Nat.blt d A.n=true)(h0:0≤b∧b≤62):Does A P ⟨some d, .binOp .shr T x y T',ty,pos,af,g⟩ s (s.put d (lf (.val (.int .u64 (a / 2 ^ b.toNat))))):=
  Qe rfl hn fun gh a' w r=>by
    have h1:a'.eval x= .int .u64 a:=hx gh a' w r
    have h2:a'.eval y= .int k b:=hy gh a' w r
    have h3:Op.shift .shr .u64 a k b=pure (.int .u64 (a / 2 ^ b.toNat)):=by
      rw[shift_shr_any _ _ _ _ h0.1,show IntKind.u64.bits=64 from rfl,ce (by omega)]
    refine ⟨_, ?_,_,rfl,rfl⟩
    simp only[execOp,h1,h2,eqGuard_at_int,binOp,h3]
    simp
theorem Qi0 {n:UInt8}(hx:Evl A s x (.dat .u8 n))(hs:P.underlying T=some (.int .u8))(hd:P.underlying T'=some (.int .i64))(hn:Nat.blt d A.n=true):
    Does A P ⟨some d, .convert T T' x,ty,pos,af,g⟩ s (s.put d (lf (dI n.toNat))):=
  Qe rfl hn fun gh a w r=>by
    have h2:a.eval x= .int .u8 n.toNat:=by
      have h3:Rd gh.N .u8 w [a.eval x] n:=hx gh a w r
      have h4:[a.eval x]=[.int .u8 n.toNat]:=h3.rep
      simpa using h4
    have hb:n.toNat < 256:=n.toNat_lt
    have e2:IntKind.i64.wrap (n.toNat:Int)=(n.toNat:Int):=IntWalk.i64_in _ (by omega)
    refine ⟨.int .i64 n.toNat, ?_,_,rfl,Ye (by omega)⟩
    simp only[execOp,h2,convert,run_underlying hs,run_underlying hd,au,aF,Conv.intToInt,e2]
    simp
end
theorem Trd.u8 {P:Program}{T:TypeId}(h:P.underlying T=some (.int .u8))(hc:P.cellsOf T=1):Trd P T .u8:=⟨hc,fun enc w base spare held fuel cs x hx=>by
  obtain ⟨n,rfl,_,hw⟩:=DataW.trod_int h hx
  simp[Lit.wf] at hw
  have hu1:IntKind.u8.min=0:=rfl
  have hu2:IntKind.u8.max=255:=rfl
  rw[hu1,hu2] at hw
  refine ⟨UInt8.ofNat n.toNat, ?_⟩
  have e1:(UInt8.ofNat n.toNat).toNat=n.toNat:=by
    rw[UInt8.toNat_ofNat']
    exact cY (by omega)
  show [Value.int .u8 n]=[Value.int .u8 ((UInt8.ofNat n.toNat).toNat:Nat)]
  rw[e1,cQ (by omega)]⟩
def QpC (P:Program)(T:TypeId)(offs:List (Nat×Nat))(zs:List Value):Prop:=
  ∃fs,P.underlying T=some (.struct fs)∧(∀w,(fs.mapM fun (f:Field)=>do pure (f.offset,← sizeOf f.type)).run P w= .ok offs.toArray w)∧zer P T=some (.agg zs.toArray)
theorem HK {P:Program}{T:TypeId}{fs:List Field}{offs:List (Nat×Nat)}{zs:List Value}(hu:P.underlying T=some (.struct fs.toArray))(hp:plB P fs offs=true)(hz:zer P T=some (.agg zs.toArray)):QpC P T offs zs:=
  ⟨_,hu,fun w=>by
    rw[List.mapM_toArray]
    have:=KD (P:=P) (w:=w) hp
    simp only[map_eq_pure_bind,au,this,aF,aX],hz⟩
section
variable {A:Amb}{P:Program}{s:St}{d:Nat}{T ty:TypeId}{pos:String}{af:Array Edge}{g:Option (Nat×Bool)}
theorem WD {zs:List Value}(zl:List LV){offs:List (Nat×Nat)}{parts:Array (Nat×Operand)}{css:List (Bool×List LV)}{ls:List LV}(hb:QpC P T offs zs)(hz0:∀al gh w,LVs al gh w zl zs)(hv:EvL A s (parts.toList.map (·.2)) css)(hok:∀c∈css,Q9 s.tab c.2=true)
    (hf:Qb9 offs zl ((parts.toList.map (·.1)).zip (css.map (·.2)))=some ls) (hn:Nat.blt d A.n=true):Does A P ⟨some d, .build T parts,ty,pos,af,g⟩ s (s.put d (ag ls)):=
  Qe rfl hn fun gh a w r=>by
    obtain ⟨fs,h1,h2,h3⟩:=hb
    have hvs:=hv.cms r
    have hlen:=hvs.len
    generalize hV:(parts.toList.map (·.2)).map a.eval=vs at*
    have hpl:parts.toList.length=vs.length:=by rw[← hV]; simp
    have hcells:∀(cs:List (Bool×List LV)) (vs:List Value),CmsR s.tab.al gh w cs vs→(∀c∈cs,Q9 s.tab c.2=true)→∀(i:Nat) (c:Bool×List LV) (v:Value),cs[i]? =some c→vs[i]? =some v→∃us,v.cells=us.toArray∧LVs s.tab.al gh w c.2 us:=by
      intro cs
      induction cs with
      | nil=>intro vs _ _ i c v h; simp at h
      | cons c cs ih=>
        rintro vs ⟨v,vs',rfl,k1,k2⟩ hok i c' v' hc hv'
        cases i with
        | zero=>
          simp at hc hv'
          subst hc; subst hv'
          have hc:=hok c (ay ..)
          obtain ⟨b,ls⟩:=c
          exact CmR.cells k1 fun hb=>by
            subst hb
            obtain ⟨l,rfl,q1⟩:=k1
            simp only[Q9,cK] at hc
            obtain ⟨h3,h4⟩:=X2 hc
            exact q1.oneCell h4 h3 fun q ⟨e,he⟩=>(r.cx.en q e he).oneCell
        | succ i=>exact ih vs' k2 (fun c hc=>hok c (ax _ hc)) i c' v' (by simpa using hc) (by simpa using hv')
    have hzl:((parts.toList.map (·.1)).zip (css.map (·.2))).length=vs.length:=by rw[List.length_zip,aQ,aQ]; omega
    obtain ⟨cur',k1,k2⟩:=Jr (al:=s.tab.al) (gh:=gh) (w:=w) (cur:=zs.toArray) hf hzl.symm (fun i p v hp hv'=>by
      have hi:=List.getElem?_zip_eq_some.1 hp
      have h5:=hi.2
      rw[bo] at h5
      obtain ⟨c',h6,h7⟩:=ck.1 h5
      rw[← h7]
      exact hcells css vs hvs hok i c' v h6 hv') (by simpa using hz0 s.tab.al gh w)
    refine ⟨.agg cur', ?_,cur'.toList,by simp,k2⟩
    have hz:(((parts.toList.map (·.1)).zip (css.map (·.2))).map (·.1)).zip vs=(parts.map fun p=>(p.1,a.eval p.2)).toList:=by
      rw[List.map_fst_zip (by rw[aQ,aQ]; omega),cO,← hV,dc]
      generalize parts.toList=pl
      induction pl with
      | nil=>rfl
      | cons p ps ih=>simp[ih]
    rw[hz] at k1
    simp only[execOp,Instr.build,au,Xx h3,aF,run_underlying h1,h2,Value.cells]
    rw[k1]
    simp
end
end Go.Proofs.YtfkmmpfdncopdaaGreat
