/- Walks over abstract states: what is enabled together, the reference. -/
import Derived.Test.YtgpdhgadmjfokaaGreatCa
import Derived.Test.YtgpdhgadmjfokaaGreatWp
import Derived.Test.YtgpdhgadmjfokaaGreatUb
import Derived.Test.YtgpdhgadmjfokaaGreatVa
import Derived.Test.YtgpdhgadmjfokaaGreatVe
import Derived.Test.YtgpdhgadmjfokaaGreatAv
set_option linter.unusedSimpArgs false
set_option linter.unusedVariables false
set_option linter.unusedSectionVars false
namespace Go.Proofs.YtgpdhgadmjfokaaGreat
open Go.RowKit
set_option maxRecDepth 100000
set_option maxHeartbeats 4000000
theorem QbZ {α:Type _}[DecidableEq α]{lt:α→α→Bool}(x:α):∀l:List α,(ZY lt x l).length≤l.length+1
 | []=>aM _
 | y :: l=>by
  unfold ZY
  have:=QbZ (lt:=lt) x l
  split
  ·simp only[ap]; omega
  ·split <;> simp
def shV (n:YU)(t u:Int):Bool:=((n.2[t.toNat]?).getD ([],[])).1.any fun z=>decide (z∈((n.2[u.toNat]?).getD ([],[])).1)
def Qvo (n:YU)(t:Int)(l:List Int):List (List Int):=(l.filter fun u=>decide (t < u)&& !shV n t u).map fun u=>[t,u]
def Qvd (n:YU)(t:Int)(l:List Int):List (List Int):=(l.filter fun u=> !shV n t u).map fun u=>[t,u]
def Qvt (n:YU)(on l:List Int):List (List Int):=l.flatMap fun t=>Qvo n t on
def Qv9 (n:YU)(on:List Int)(k:Nat):List (List Int):=(List.range k).flatMap fun i=>Qvd n ((on[i]?).getD 0) (on.drop (i+1))
def QvL (n:YU)(ms:List ByteArray):List (List Int):=ms.flatMap fun mk=>Qvt n (UU n mk) (UU n mk)
section
variable {n:YU}{k f i j:Nat}{mk:ByteArray}{t u:Int}{ts on l:List Int}{st:RS}{s:QV}{xt xu:QR}{ms:List ByteArray}{as_ bs:List (List Int)}
end
section
variable {vs vs2:List Hdr}{gf gf2 gj:Hdr→List Int}{l:List (List Int)}{m:Int}{x:List Int}
end
end Go.Proofs.YtgpdhgadmjfokaaGreat
namespace Go.Proofs.YtgpdhgadmjfokaaGreat
open Go.RowKit
set_option maxRecDepth 100000
set_option maxHeartbeats 4000000
def spS (s:ByteArray)(b:UInt8):Nat→List ByteArray×Int
 | 0=>([],0)
 | i+1=>if s[i]? =some b then ((spS s b i).1++[s.extract (spS s b i).2.toNat i],(i:Int)+1) else spS s b i
def Zw (s:ByteArray)(b:UInt8):List ByteArray:=(spS s b s.size).1++[s.extract (spS s b s.size).2.toNat s.size]
section
variable {s:ByteArray}{b c:UInt8}{i:Nat}
theorem Qqw (h:s[i]? =some c)(e:c=b):((spS s b i).1++[s.extract (spS s b i).2.toNat i],(i:Int)+1)=spS s b (i+1):=by rw[spS,if_pos (by rw[h,e])]
theorem Qsg (h:s[i]? =some c)(e:¬c=b):spS s b i=spS s b (i+1):=by rw[spS,if_neg (by rw[h]; simpa using e)]
theorem Qkl:0≤(spS s b i).2∧(spS s b i).2≤(i:Int)∧(spS s b i).1.length≤i:=by
 induction i with
 | zero=>exact ⟨du _,du _,aM _⟩
 | succ i d=>
  rw[spS]
  split
  ·refine ⟨by show (0:Int)≤(i:Int)+1; omega,by show ((i:Int)+1)≤((i+1:Nat):Int); omega, ?_⟩
   rw[ah,ap,aD]; omega
  ·obtain ⟨a,e,f⟩:=d; exact ⟨a,by omega,by omega⟩
theorem Qk5:(Zw s b).length≤s.size+1:=by
 unfold Zw
 have:=Qkl (s:=s) (b:=b) (i:=s.size)
 rw[ah,ap,aD]; omega
end
abbrev DTr:=List Int×List Int
abbrev DB:=QV×List ByteArray×List ByteArray
def b0 (t:ByteArray):UInt8:=(t[0]?).getD 0
def bZ (t:ByteArray):UInt8:=(t[t.size - 1]?).getD 0
def K6 (l:List ByteArray)(x:ByteArray):Bool:=l.any fun y=>decide (y=x)
def atB (l:List ByteArray)(x:ByteArray):Int:=if K6 l x=true then ZD (fun y=>decide (y=x)) l else (l.length:Int)
def plV (b:DB)(name:ByteArray):DB:=if K6 b.2.1 name=true then b else (((b.1.1.1+1,b.1.1.2),b.1.2.1,b.1.2.2.1,b.1.2.2.2++(⟨#[48]⟩:ByteArray)),b.2.1++[name],b.2.2)
def plI (b:DB)(name:ByteArray):Int:=atB b.2.1 name
def JW (word:ByteArray):ByteArray:=((Zw word 47)[0]?).getD ByteArray.empty
def QhG (G:List QB)(word:ByteArray):QZ:=if b0 (JW word)=126 then (-1,false) else (ZD (fun g=>decide (g.1=(JW word).extract 0 ((JW word).size - 1))) G,decide (bZ (JW word)=43))
def Zi (b:DB)(word:ByteArray):DB:=if K6 b.2.2 word=true then b else (((b.1.1.1,b.1.1.2++[([],[])]),b.1.2.1,b.1.2.2.1++[QhG b.1.2.1 word],b.1.2.2.2),b.2.1,b.2.2++[word])
def trI (b:DB)(word:ByteArray):Int:=atB b.2.2 word
def Je (text:ByteArray):ByteArray:=if b0 text=42 then text.extract 1 text.size else text
def Y9 (text:ByteArray)(k:Nat):ByteArray:=((Zw (Je text) 62)[k]?).getD ByteArray.empty
def HL (text:ByteArray):ByteArray:=if b0 (Y9 text 1)=95 then Y9 text 1 else if b0 (Y9 text 0)=95 then Y9 text 0 else Je text
def QbX (T:List DTr)(t p:Int):List DTr:=T.modify t.toNat fun x=>(x.1,ZY ltI p x.2)
def Qcj (T:List DTr)(t p:Int):List DTr:=T.modify t.toNat fun x=>(ZY ltI p x.1,x.2)
def ar1 (p:Int)(b:DB)(text:ByteArray):DB:=if b0 (Y9 text 0)=95 then b else
 let c:=Zi b (Y9 text 0); (((c.1.1.1,QbX c.1.1.2 (trI b (Y9 text 0)) p),c.1.2.1,c.1.2.2.1,c.1.2.2.2),c.2.1,c.2.2)
def ar2 (p:Int)(b:DB)(text:ByteArray):DB:=if b0 (Y9 text 1)=95 then b else
 let c:=Zi b (Y9 text 1); (((c.1.1.1,Qcj c.1.1.2 (trI b (Y9 text 1)) p),c.1.2.1,c.1.2.2.1,c.1.2.2.2),c.2.1,c.2.2)
def Qm7 (s:ByteArray)(p:Int):ByteArray:=s.extract 0 p.toNat++(⟨#[49]⟩:ByteArray)++s.extract (p+1).toNat s.size
def arV (b:DB)(text:ByteArray):DB:=
 let p:=plI b (HL text)
 let c:=ar2 p (ar1 p (plV b (HL text)) text) text
 if b0 text=42 then ((c.1.1,c.1.2.1,c.1.2.2.1,Qm7 c.1.2.2.2 p),c.2.1,c.2.2) else c
def sgN (names:ByteArray)(kd:Int)(i:Nat):List QB:=(List.range i).map fun j=>(names.extract j (j+1),kd)
def sgA:List ByteArray→Int→List QB
 | [],_=>[]
 | n :: l,k=>sgN n k n.size++sgA l (k+1)
def buG (ins outs inner:ByteArray):List QB:=sgA [ins,outs,inner] 1
def buB (G:List QB)(arcs:ByteArray):DB:=(Zw arcs 32).foldl arV (((0,[]),G,[],ByteArray.empty),[],[])
def QE (ins outs inner arcs:ByteArray):QV:=(buB (buG ins outs inner) arcs).1
def okW (w:ByteArray):Bool:=decide (1≤w.size)&&(decide (b0 w=95)||decide (1≤(JW w).size))
def okA (t:ByteArray):Bool:=decide (1≤t.size)&&(decide (2≤(Zw (Je t) 62).length)&&(okW (Y9 t 0)&&okW (Y9 t 1)))
section
variable {l:List ByteArray}{x name word text:ByteArray}{b c:DB}{G:List QB}{n k:Nat}
theorem QpC {α:Type _}{f:α→Bool}{l:List α}(h:l.any f=true):0≤ZD f l∧ZD f l < (l.length:Int):=by
 have a:=Uf f l
 rw[h,aV] at a
 refine ⟨a, ?_⟩
 unfold ZD at*
 cases d:l.findIdx? f with
 | none=>rw[d] at a; simp at a
 | some i=>
  have:=(cd.1 d).1
  simpa using this
theorem Qn2 (h:K6 l x=true):0≤atB l x∧atB l x < (l.length:Int):=by
 unfold atB; rw[if_pos h]; exact QpC h
theorem Hd (h:K6 l x=false):atB l x=(l.length:Int):=if_neg (by rw[h]; decide)
theorem QoS (f:NoneTo (fun y=>decide (y=x)) l k){y:ByteArray}(a:l[k]? =some y)(e:y=x):(k:Int)=atB l x:=by
 unfold atB
 have d:K6 l x=true:=QoR a (aT e)
 rw[if_pos d,f.at a (aT e)]
theorem YG {y:ByteArray}(a:l[k]? =some y)(e:y=x):K6 l x=true:=QoR a (aT e)
theorem ZZ (d:NoneTo (fun y=>decide (y=x)) l k)(a:l.length≤k):K6 l x=false:=d.any_no a
theorem UH (h:K6 b.2.1 name=true):plV b name=b:=if_pos h
theorem WI (h:K6 b.2.1 name=false):plV b name=(((b.1.1.1+1,b.1.1.2),b.1.2.1,b.1.2.2.1,b.1.2.2.2++(⟨#[48]⟩:ByteArray)),b.2.1++[name],b.2.2):=if_neg (by rw[h]; decide)
theorem WJ (h:K6 b.2.2 word=true):Zi b word=b:=if_pos h
theorem ZW (h:K6 b.2.2 word=false):Zi b word=(((b.1.1.1,b.1.1.2++[([],[])]),b.1.2.1,b.1.2.2.1++[QhG b.1.2.1 word],b.1.2.2.2),b.2.1,b.2.2++[word]):=if_neg (by rw[h]; decide)
structure DBJ (b:DB) (p w m:Nat):Prop where
  st:b.1.2.2.2.size=b.2.1.length
  tr:b.1.1.2.length=b.2.2.length
  la:b.1.2.2.1.length=b.2.2.length
  p0:b.1.1.1=(b.2.1.length:Int)
  pl:b.2.1.length≤p
  ws:b.2.2.length≤w
  inn:∀t∈b.1.1.2,t.1.length≤m∧t.2.length≤m
theorem QjR:0≤plI b name∧plI b name < ((plV b name).2.1.length:Int):=by
 unfold plI
 cases h:K6 b.2.1 name with
 | true=>rw[UH h]; exact Qn2 h
 | false=>rw[WI h,Hd h,ah]; simp only[ap,aD]; omega
theorem Qkb:0≤trI b word∧trI b word < ((Zi b word).2.2.length:Int):=by
 unfold trI
 cases h:K6 b.2.2 word with
 | true=>rw[WJ h]; exact Qn2 h
 | false=>rw[ZW h,Hd h,ah]; simp only[ap,aD]; omega
theorem QdP:(Zi b word).1.1.1=b.1.1.1∧(Zi b word).1.2.1=b.1.2.1∧(Zi b word).1.2.2.2=b.1.2.2.2∧(Zi b word).2.1=b.2.1:=by unfold Zi; split <;> exact ⟨rfl,rfl,rfl,rfl⟩
theorem DBJ.pl_ {p w m:Nat}(h:DBJ b p w m):DBJ (plV b name) (p+1) w m:=by
 cases a:K6 b.2.1 name with
 | true=>rw[UH a]; exact ⟨h.st,h.tr,h.la,h.p0,cP h.pl,h.ws,h.inn⟩
 | false=>
  rw[WI a]
  have d:(⟨#[48]⟩:ByteArray).size=1:=rfl
  refine ⟨?_,h.tr,h.la, ?_, ?_,h.ws,h.inn⟩
  ·show (b.1.2.2.2++(⟨#[48]⟩:ByteArray)).size=(b.2.1++[name]).length
   rw[aQ,ah,h.st,d]; rfl
  ·show b.1.1.1+1=((b.2.1++[name]).length:Int)
   rw[ah,h.p0]; simp
  ·show (b.2.1++[name]).length≤p+1
   rw[ah]; have:=h.pl; simp only[ap,aD]; omega
theorem DBJ.tr_ {p w m:Nat}(h:DBJ b p w m):DBJ (Zi b word) p (w+1) m:=by
 cases d:K6 b.2.2 word with
 | true=>rw[WJ d]; exact ⟨h.st,h.tr,h.la,h.p0,h.pl,cP h.ws,h.inn⟩
 | false=>
  rw[ZW d]
  refine ⟨h.st, ?_, ?_,h.p0,h.pl, ?_, ?_⟩
  ·show (b.1.1.2++[([],[])]).length=(b.2.2++[word]).length
   rw[ah,ah,h.tr]; rfl
  ·show (b.1.2.2.1++[QhG b.1.2.1 word]).length=(b.2.2++[word]).length
   rw[ah,ah,h.la]; rfl
  ·show (b.2.2++[word]).length≤w+1
   rw[ah]; have:=h.ws; simp only[ap,aD]; omega
  ·intro t a
   rcases aA.1 a with a | a
   ·exact h.inn t a
   ·rw[az.1 a]; exact ⟨aP _,aP _⟩
theorem QkY {T:List DTr}{m i:Nat}{f:DTr→DTr}(h:∀t∈T,t.1.length≤m∧t.2.length≤m)(e:∀t,(f t).1.length≤t.1.length+1∧(f t).2.length≤t.2.length+1):∀t∈T.modify i f,t.1.length≤m+1∧t.2.length≤m+1:=fun t g=>by
 obtain ⟨j,a⟩:=aJ.1 g
 rw[cF] at a
 cases d:T[j]? with
 | none=>rw[d] at a; cases a
 | some u=>
  rw[d] at a
  have p:=h u (ai d)
  have o:=e u
  have a:some (if i=j then f u else u)=some t:=a
  cases a
  split <;> omega
theorem DBJ.st_ {p w m:Nat}{q:Int}(h:DBJ b p w m)(e:0≤q∧q < (b.2.1.length:Int)):DBJ ((b.1.1,b.1.2.1,b.1.2.2.1,Qm7 b.1.2.2.2 q),b.2.1,b.2.2) p w m:=by
 refine ⟨?_,h.tr,h.la,h.p0,h.pl,h.ws,h.inn⟩
 have a:(⟨#[49]⟩:ByteArray).size=1:=rfl
 have d:=h.st
 show (Qm7 b.1.2.2.2 q).size=b.2.1.length
 unfold Qm7
 simp only[aQ,aS,a]
 omega
theorem DBJ.more {p w m f w' e:Nat}(h:DBJ b p w m)(g:p≤f)(j:w≤w')(a:m≤e):DBJ b f w' e:=⟨h.st,h.tr,h.la,h.p0,bg h.pl g,bg h.ws j,fun t d=>⟨bg (h.inn t d).1 a,bg (h.inn t d).2 a⟩⟩
theorem DBJ.ar1_ {p w m:Nat}{q:Int}(h:DBJ b p w m):DBJ (ar1 q b text) p (w+1) (m+1):=by
 unfold ar1
 split
 ·exact h.more (aM _) (by omega) (by omega)
 ·have k:=h.tr_ (word:=Y9 text 0)
  exact ⟨k.st,(List.length_modify ..).trans k.tr,k.la,k.p0,k.pl,k.ws,QkY k.inn fun t=>⟨Nat.le_succ _,QbZ _ _⟩⟩
theorem DBJ.ar2_ {p w m:Nat}{q:Int}(h:DBJ b p w m):DBJ (ar2 q b text) p (w+1) (m+1):=by
 unfold ar2
 split
 ·exact h.more (aM _) (by omega) (by omega)
 ·have k:=h.tr_ (word:=Y9 text 1)
  exact ⟨k.st,(List.length_modify ..).trans k.tr,k.la,k.p0,k.pl,k.ws,QkY k.inn fun t=>⟨QbZ _ _,Nat.le_succ _⟩⟩
theorem Qoo {q:Int}:(ar1 q b text).2.1=b.2.1:=by unfold ar1; split; exact rfl; exact QdP.2.2.2
theorem Qoz {q:Int}:(ar2 q b text).2.1=b.2.1:=by unfold ar2; split; exact rfl; exact QdP.2.2.2
theorem DBJ.ar_ {p w m:Nat}(h:DBJ b p w m):DBJ (arV b text) (p+1) (w+2) (m+2):=by
 have d:=h.pl_ (name:=HL text)
 have e:=d.ar1_ (q:=plI b (HL text)) (text:=text)
 have a:=e.ar2_ (q:=plI b (HL text)) (text:=text)
 unfold arV
 dsimp only
 split
 ·exact a.st_ (by rw[Qoz,Qoo]; exact QjR)
 ·exact a
theorem DBJ.zero (G:List QB):DBJ (((0,[]),G,[],ByteArray.empty),[],[]) 0 0 0:=⟨rfl,rfl,rfl,rfl,aM _,aM _,fun t h=>by cases h⟩
end
end Go.Proofs.YtgpdhgadmjfokaaGreat
namespace Go.Proofs.YtgpdhgadmjfokaaGreat
open Go.RowKit
@[reducible] def Ex {X:Type} (Q:X→Prop) (pv:X→PV) (T:X→Tab):PV→Tab→Prop:=fun p T'=>∃x,Q x∧p=pv x∧T'=T x
section
variable {A:Amb}{P:Program}{s:St}{f:FuncId}{xs:List Operand}{tys:Array TypeId}{args:List (Bool×List LV)}{d:Nat}{ty:TypeId}{pos:String}{af:Array Edge}{g:Option (Nat×Bool)}{T:Tab}{k:Nat}
  {X:Type} {Qx:X→Prop} {pv:X→PV} {T':X→Tab} {ops:Array Oper} {l:List Oper} {Q:Exit→St→Prop}
theorem DoesT.callX (n:Nat)(ρ:List (Nat×Nat))(O:FC P f args T k (Ex Qx pv T'))(L:Qg P f)(N:EvL A s xs (args.map fun c=>(c.1,c.2.map (LV.ren (rn ρ)))))(B:HasE s ρ T)
 (m:(X6 (T.map fun p=>rn ρ p.1)&&Nat.blt d A.n)=true) (hB:∀x,(Yj (pv x) (T' x)&&X6 ((T' x).map fun p=>sg ρ k n p.1)&&Qgs T (T' x) k)=true) (hfr:∀x,FrK s n k (Zx (T' x))) (hk0:A.k0≤n):
 DoesT A P ⟨some d, .call ⟨.value (.func f),xs.toArray,tys⟩,ty,pos,af,g⟩ s (fun s'=>∃x,Qx x∧s'=s.backP d (sg ρ k n) (T.map fun p=>rn ρ p.1) (pv x) (T' x)):=fun a w K Q r M=>by
 obtain ⟨G,r⟩:=r
 rw[aL] at m
 obtain ⟨m,S⟩:=m
 have b:∀q,T.al q→s.tab.al (rn ρ q):=fun q ⟨e,h⟩=>⟨_,B.get h⟩
 have o:∀q j,T.al q→T.al j→rn ρ q=rn ρ j→q=j:=fun q j u i h=>Ky m u i h
 have y:Cx T (G.via (rn ρ)) w:=⟨fun q e h=>(EntR.ren.1 (r.cx.en _ _ (B.get h))).mono (fun Y _ J=>⟨b Y J,rfl⟩) (fun g C=>⟨C,rfl⟩) rfl rfl fun _ _=>rfl,
  fun q j u i F=>r.cx.dj _ _ (b q u) (b j i) fun h=>F (o q j u i h),fun q h=>r.cx.nd _ (b q h),fun q h=>r.cx.no _ (b q h),r.cx.nl⟩
 have V:=(CmsR.ren.1 (N.cms r)).mono (al':=T.al) (gh':=G.via (rn ρ)) (w':=w) (fun q _ h=>⟨b q h,rfl⟩) fun g C=>⟨C,rfl⟩
 refine KM L rfl (Calls.mono (O _ w _ y V) fun e Z R=> ?_)
 obtain ⟨v,W,T2,z,rfl,⟨x,t,rfl,rfl⟩,H,U,I,E⟩:=R
 have i:=hB x
 simp only[aL] at i
 refine M _ _ _ ⟨x,t,rfl⟩ (QgA n ρ r B m i.1.1 i.1.2 (fun q ⟨e,t⟩ D=> ?_) (fun q ⟨e,t⟩ D=>(hfr x).get q (Ze t).1 D) hk0 S H U I E)
 have:=aq.1 i.2 q (Ze t).1
 rw[show Nat.blt q k=true from cC D] at this
 exact bf.1 (by simpa using this)
theorem YQ (n:Nat)(ρ:List (Nat×Nat))(j:FC P f args T k (Ex Qx pv T'))(a:Qg P f)(i:EvL A s xs (args.map fun c=>(c.1,c.2.map (LV.ren (rn ρ)))))(b:HasE s ρ T)
 (hi:(X6 (T.map fun p=>rn ρ p.1)&&Nat.blt d A.n)=true) (hB:∀x,(Yj (pv x) (T' x)&&X6 ((T' x).map fun p=>sg ρ k n p.1)&&Qgs T (T' x) k)=true) (hfr:∀x,FrK s n k (Zx (T' x))) (hk0:A.k0≤n)
 (h:∀x,Qx x→AL A P ops l Q (s.backP d (sg ρ k n) (T.map fun p=>rn ρ p.1) (pv x) (T' x))):AL A P ops (⟨some d, .call ⟨.value (.func f),xs.toArray,tys⟩,ty,pos,af,none⟩ :: l) Q s:=
 Qm0 rfl (DoesT.callX n ρ j a i b hi hB hfr hk0) fun o ⟨x,m,e⟩=>e▸h x m
theorem Za {fn:Func}{s:St}(x:X)(ρ:List (Nat×Nat)){a:PV}(i:Qx x)(b:Res A P fn s a)(h0:a=(pv x).ren (rn ρ))(c:HasE ⟨[],s.tab⟩ ρ (T' x))(e:X6 ((T' x).map fun x=>rn ρ x.1)=true)(h:idB ρ k=true):fin A P fn (JP (Ex Qx pv T') k) .ret s:=
 Qbp (pv x) (T' x) ρ (h0▸b) c e h ⟨x,i,rfl,rfl⟩
end
section
variable {A:Amb}{P:Program}{s:St}{f:FuncId}{xs:List Operand}{tys:Array TypeId}{args:List (Bool×List LV)}{d:Nat}{ty T:TypeId}{pos:String}{af:Array Edge}{g:Option (Nat×Bool)}
  {X:Type} {Qx:X→Prop} {pv:X→PV} {ops:Array Oper} {l:List Oper} {Q:Exit→St→Prop} {x:Operand}
end
end Go.Proofs.YtgpdhgadmjfokaaGreat
namespace Go.Proofs.YtgpdhgadmjfokaaGreat
open Go.RowKit
set_option maxRecDepth 100000
set_option maxHeartbeats 4000000
section
variable {s:ByteArray}{b c:UInt8}{i:Nat}{out:List ByteArray}{fr:Int}
theorem Ql6 (a:(out,fr)=spS s b i)(hi:s.size≤i)(d:i≤s.size):out++[s.extract fr.toNat s.size]=Zw s b:=by
 have e:i=s.size:=by omega
 subst e
 unfold Zw
 rw[← a]
theorem Qmw (a:(out,fr)=spS s b i)(h:s[((i:Nat):Int).toNat]? =some c)(e:c=b):(out++[s.extract fr.toNat ((i:Nat):Int).toNat],(i:Int)+1)=spS s b (i+1):=by
 rw[cu] at h ⊢
 rw[← Qqw h e,← a]
theorem QlQ (s:ByteArray)(b:UInt8):1≤(Zw s b).length:=by unfold Zw; rw[ah,ap,aD]; omega
theorem Jz {x:ByteArray}(h:x∈Zw s b):x.size≤s.size:=by
 have d:∀i,∀x∈(spS s b i).1,x.size≤s.size:=fun i=>by
  induction i with
  | zero=>intro x h; cases h
  | succ i a=>
   intro x h
   rw[spS] at h
   split at h
   ·rcases aA.1 h with h | h
    ·exact a x h
    ·rw[az.1 h]; simp only[aS]; omega
   ·exact a x h
 unfold Zw at h
 rcases aA.1 h with h | h
 ·exact d _ x h
 ·rw[az.1 h]; simp only[aS]; omega
theorem QnD (a:(out,fr)=spS s b i)(h:s[((i:Nat):Int).toNat]? =some c)(e:¬c=b):(out,fr)=spS s b (i+1):=by
 rw[cu] at h
 rw[← Qsg h e,← a]
end
theorem WC (s:ByteArray)(b:UInt8)(F:s.size≤100000):FC Tryz.prog 380 [(false,[dS s]),(false,[.dat .u8 b])] [] 0 (XD 9 .str (Zw s b)):=by
 refine Qu Tryz.func380 rfl rfl Tryz.ntmps380 fun D A C v E z y=> ?_
 refine w14 ?_
 refine AC.wk (Wk.nilS 0 5 9 .str rfl (Fresh.of rfl) (nlr rfl)) ?_
 refine QQ (fun r u=>∃(i:Nat) (out:List ByteArray) (fr:Int),i≤s.size∧r=s.size - i∧((out,fr)=spS s b i)∧u=⟨[(0,lf (dS s)),(1,lf (.dat .u8 b)),(4,lf (.val (.slice none 0 0))),(5,lR 1),(6,lI fr),(7,lI (i:Int))],[ar 1 9 .str out]⟩) ⟨0,([]:(Qm:Ty).Den),0,aP _,rfl,rfl,rfl⟩ ?_ ?_
 exact wp [(1,0)] ⟨(Qh (by first | rfl | simp)),trivial⟩
 rintro r u ⟨i,out,fr,q,B,n,rfl⟩
 have m:=Qkl (s:=s) (b:=b) (i:=i)
 rw[← n] at m
 dsimp only at m
 refine w4 ?_
 refine alS 9 fun _=> ?_
 refine lc (Zq (Qa rfl) rfl Q9) ?_
 refine w2 ?_
 cases a:(decide ((i:Int) < (s.size:Int)))
 have d:=aa a
 refine w7 ?_
 refine lc (show Does _ _ _ _ (St.put _ 31 (lf (dS (s.extract (fr).toNat s.size)))) from Q0 (l:=(some fr)) (h:=none) (Qa rfl) (by exact (Qa rfl)) (by exact trivial) Q9 rfl (by first | omega | (simp only[ao,ak]; omega)) (by first | omega | (simp only[ao,ak]; omega)) (by first | omega | (simp only[ao,ak]; omega))) ?_
 refine lc (dBs 2 (e:= .str) WE) ?_
 refine lc (dA 3 Ji) ?_
 refine w2 ?_
 refine Qe<|fo_ A ?_
 exact Ql6 n (by omega) q
 have d:=ab a
 refine w7 ?_
 obtain ⟨w,o⟩:=gs s (((i:Int)).toNat)
 have j:=o
 refine w4 ?_
 cases f:(decide (w=b))
 have g:=aa f
 refine w7 ?_
 refine Qc<|Zs ⟨i+1,out,fr,by omega,rfl,(by exact QnD n j ‹_›),rfl⟩ (by omega) ?_
 exact wo []
 have g:=ab f
 refine w6 ?_
 refine lc (show Does _ _ _ _ (St.put _ 23 (lf (dS (s.extract (fr).toNat ((i:Int)).toNat)))) from Q0 (l:=(some fr)) (h:=(some (i:Int))) (Qa rfl) (by exact (Qa rfl)) (by exact (Qa rfl)) Q9 rfl (by first | omega | (simp only[ao,ak]; omega)) (by first | omega | (simp only[ao,ak]; omega)) (by first | omega | (simp only[ao,ak]; omega))) ?_
 refine lc (dBs 4 (e:= .str) WE) ?_
 refine lc (dA 5 Ji) ?_
 refine w6 ?_
 refine Qc ?_
 refine w5 ?_
 refine Qc<|Zs ⟨i+1,(out++([s.extract (fr).toNat ((i:Int)).toNat])),((i:Int)+1),by omega,rfl,(by exact Qmw n j ‹_›),rfl⟩ (by omega) ?_
 exact wp [(1,5)] ⟨(Qh (by first | rfl | simp)),trivial⟩
section
variable {word text nm:ByteArray}{G:List QB}{c0 cz:UInt8}{k:Nat}{x:DTr}{T_:List DTr}{t p:Int}
theorem Qr9 (d:JW word=nm)(a:nm[(0:Int).toNat]? =some c0)(h:c0=126):((-1,false):QZ)=QhG G word:=by
 unfold QhG b0
 rw[d,show nm[0]? =some c0 from a]
 exact (if_pos (show (some c0).getD 0=126 from h)).symm
theorem QrM (f:JW word=nm)(d:nm[(0:Int).toNat]? =some c0)(h:¬c0=126)(a:nm[((nm.size:Int) - 1).toNat]? =some cz):
 ((ZD (fun g=>decide (g.1=nm.extract 0 ((nm.size:Int) - 1).toNat)) G,decide (cz=43)):QZ)=QhG G word:=by
 unfold QhG b0 bZ
 have e:((nm.size:Int) - 1).toNat=nm.size - 1:=by omega
 rw[e] at a ⊢
 rw[f,show nm[0]? =some c0 from d]
 refine Eq.trans ?_ (if_neg (show¬(some c0).getD 0=126 from h)).symm
 rw[a]; rfl
theorem Qk6 (a:T_[t.toNat]? =some x):T_.set t.toNat (x.1,ZY ltI p x.2)=QbX T_ t p:=by
 unfold QbX
 apply bF
 intro i
 rw[bI,cF]
 by_cases e:t.toNat=i
 ·subst e; rw[a]; simp[(ae.1 a).1]
 ·simp[e]
theorem Qmm (a:T_[t.toNat]? =some x):T_.set t.toNat (ZY ltI p x.1,x.2)=Qcj T_ t p:=by
 unfold Qcj
 apply bF
 intro i
 rw[bI,cF]
 by_cases e:t.toNat=i
 ·subst e; rw[a]; simp[(ae.1 a).1]
 ·simp[e]
end
theorem HM (b:DB)(name:ByteArray)(B:0≤b.1.1.1∧b.1.1.1≤100000)(A:b.2.1.length≤100000∧b.1.2.2.2.size≤100000):FC Tryz.prog 438 [(false,[.ptr 0 0]),(false,[dS name])] [bx 0 341 [dI b.1.1.1, .ref 1, .ref 2, .ref 3,dS b.1.2.2.2, .ref 5, .ref 4],ar 1 245 Z4 b.1.1.2,ar 2 44 Qz b.1.2.1,ar 3 86 Qv b.1.2.2.1,ar 5 9 .str b.2.1,ar 4 9 .str b.2.2] 5 (Is (lI (plI b name)) [bx 0 341 [dI ((plV b name).1.1.1), .ref 1, .ref 2, .ref 3,dS ((plV b name).1.2.2.2), .ref 5, .ref 4],ar 1 245 Z4 ((plV b name).1.1.2),ar 2 44 Qz ((plV b name).1.2.1),ar 3 86 Qv ((plV b name).1.2.2.1),ar 5 9 .str ((plV b name).2.1),ar 4 9 .str ((plV b name).2.2)]):=by
 refine Qu Tryz.func438 rfl rfl Tryz.ntmps438 fun w m v n z u r=> ?_
 refine w13 ?_
 refine lpK b.2.1.length (fun k=>NoneTo (fun y=>decide (y=name)) b.2.1 k) (fun k=>⟨[(0,lP 0 0),(1,lf (dS name)),(10,lR 5),(11,lI (b.2.1.length:Int)),(12,lI (k:Int))],[bx 0 341 [dI b.1.1.1, .ref 1, .ref 2, .ref 3,dS b.1.2.2.2, .ref 5, .ref 4],ar 1 245 Z4 b.1.1.2,ar 2 44 Qz b.1.2.1,ar 3 86 Qv b.1.2.2.1,ar 4 9 .str b.2.2,ar 5 9 .str b.2.1]⟩) (NoneTo.zero) ?_ fun k _ a=> ?_
 exact wo []
 refine w4 ?_
 cases f:(decide ((k:Int) < (b.2.1.length:Int)))
 have g:=aa f
 refine w10 ?_
 refine lc (dBs 6 (e:= .str) WE) ?_
 refine lc (dA 7 Ji) ?_
 refine w10 ?_
 refine lc (Q8 (Qa rfl) (Evl.str rfl) rfl (by (simp only[YO]; omega))) ?_
 refine w12 ?_
 refine alI 46 fun _=> ?_
 refine lc (Xd (Qa rfl) (Qo rfl) rfl (by first | omega | (simp only[ah,ap,aD]; omega))) ?_
 refine w12 ?_
 refine lc (Wl (Qa rfl) (Qo rfl) rfl (by first | omega | (simp only[ah,ap,aD]; omega))) ?_
 refine w3 ?_
 have o:(((b.2.1++([name])).length:Int) - 1:Int)=(plI b name):=by
  (unfold plI; rw[Hd (ZZ a (by omega)),ah]; simp)
 exact fi_ [(5,7)] m ⟨(((congrArg (fun z_=>some (Ent.box 341 [dI z_, .ref 1, .ref 2, .ref 3,dS (b.1.2.2.2++(⟨#[48]⟩:ByteArray)), .ref 7, .ref 4])) (show (b.1.1.1+1:Int)=(plV b name).1.1.1 by (rw[WI (ZZ a (by omega))]; done)))).trans (congrArg (fun z_=>some (Ent.box 341 [dI ((plV b name).1.1.1), .ref 1, .ref 2, .ref 3,dS z_, .ref 7, .ref 4])) (show (b.1.2.2.2++(⟨#[48]⟩:ByteArray):ByteArray)=(plV b name).1.2.2.2 by (rw[WI (ZZ a (by omega))]; done)))),(Qh (by (rw[WI (ZZ a (by omega))]; done))),(Qh (by (rw[WI (ZZ a (by omega))]; done))),(Qh (by (rw[WI (ZZ a (by omega))]; done))),(Qh (by (rw[WI (ZZ a (by omega))]; done))),(Qh (by (rw[WI (ZZ a (by omega))]; done))),trivial⟩ (h0:=by rw[o] <;> rfl)
 have g:=ab f
 refine w7 ?_
 obtain ⟨x,l⟩:=gx b.2.1 k
 have d:=l
 refine w9 ?_
 cases h:(decide (x=name))
 have j:=aa h
 refine w4 ?_
 refine lc (Xd (Qa rfl) (Qo rfl) rfl (by first | omega | (simp only[ah,ap,aD]; omega))) ?_
 refine w_ ?_
 refine Qc ?_
 refine lK_ (a.step l (aI ‹_›)) ?_
 exact wo []
 have j:=ab h
 refine w6 ?_
 have q:((k:Int):Int)=(plI b name):=by
  exact QoS a d ‹_›
 exact fi_ [] m ⟨(((congrArg (fun z_=>some (Ent.box 341 [dI z_, .ref 1, .ref 2, .ref 3,dS b.1.2.2.2, .ref 5, .ref 4])) (show (b.1.1.1:Int)=(plV b name).1.1.1 by (rw[UH (YG d ‹_›)]; done)))).trans (congrArg (fun z_=>some (Ent.box 341 [dI ((plV b name).1.1.1), .ref 1, .ref 2, .ref 3,dS z_, .ref 5, .ref 4])) (show (b.1.2.2.2:ByteArray)=(plV b name).1.2.2.2 by (rw[UH (YG d ‹_›)]; done)))),(Qh (by (rw[UH (YG d ‹_›)]; done))),(Qh (by (rw[UH (YG d ‹_›)]; done))),(Qh (by (rw[UH (YG d ‹_›)]; done))),(Qh (by (rw[UH (YG d ‹_›)]; done))),(Qh (by (rw[UH (YG d ‹_›)]; done))),trivial⟩ (h0:=by rw[q] <;> rfl)
theorem Vq (b:DB)(word:ByteArray)(N:word.size≤1000∧1≤(JW word).size)(R:b.1.1.2.length≤100000∧b.1.2.2.1.length≤100000∧b.2.2.length≤100000):FC Tryz.prog 439 [(false,[.ptr 0 0]),(false,[dS word])] [bx 0 341 [dI b.1.1.1, .ref 3, .ref 1, .ref 4,dS b.1.2.2.2, .ref 2, .ref 5],ar 3 245 Z4 b.1.1.2,ar 1 44 Qz b.1.2.1,ar 4 86 Qv b.1.2.2.1,ar 2 9 .str b.2.1,ar 5 9 .str b.2.2] 3 (Is (lI (trI b word)) [bx 0 341 [dI ((Zi b word).1.1.1), .ref 3, .ref 1, .ref 4,dS ((Zi b word).1.2.2.2), .ref 2, .ref 5],ar 3 245 Z4 ((Zi b word).1.1.2),ar 1 44 Qz ((Zi b word).1.2.1),ar 4 86 Qv ((Zi b word).1.2.2.1),ar 2 9 .str ((Zi b word).2.1),ar 5 9 .str ((Zi b word).2.2)]):=by
 have M:=QlQ word 47
 refine Qu Tryz.func439 rfl rfl Tryz.ntmps439 fun P C O F Q J I=> ?_
 refine w13 ?_
 refine lpK b.2.2.length (fun k=>NoneTo (fun y=>decide (y=word)) b.2.2 k) (fun k=>⟨[(0,lP 0 0),(1,lf (dS word)),(12,lR 5),(13,lI (b.2.2.length:Int)),(14,lI (k:Int))],[bx 0 341 [dI b.1.1.1, .ref 3, .ref 1, .ref 4,dS b.1.2.2.2, .ref 2, .ref 5],ar 1 44 Qz b.1.2.1,ar 2 9 .str b.2.1,ar 3 245 Z4 b.1.1.2,ar 4 86 Qv b.1.2.2.1,ar 5 9 .str b.2.2]⟩) (NoneTo.zero) ?_ fun k _ a=> ?_
 exact wo []
 refine w4 ?_
 cases o:(decide ((k:Int) < (b.2.2.length:Int)))
 have q:=aa o
 refine w10 ?_
 refine lc (dBs 6 (e:= .str) WE) ?_
 refine lc (dA 7 Ji) ?_
 refine w6 ?_
 refine lc (KS (WC word 47 (by omega)).frozen JE ⟨_,_,rfl,(Qr rfl),⟨_,_,rfl,(Evl.ev (Qs 47 rfl)),rfl⟩⟩ rfl rfl) ?_
 obtain ⟨nm,z⟩:=gx (Zw word 47) 0
 have n:JW word=nm:=by unfold JW; rw[show (Zw word 47)[0]? =some nm from z]; rfl
 have L:1≤nm.size:=by rw[← n]; exact N.2
 have K:=Jz (ai z)
 refine w5 ?_
 refine lc (Qi Va ⟨_,_,rfl,(Evl.ev (Qo rfl)),rfl⟩ (aq.1 rfl) rfl rfl)<|lc (xal 8 Qv XN) ?_
 refine w5 ?_
 obtain ⟨c0,D⟩:=gs nm ((0:Int).toNat)
 have r:=D
 refine w_ ?_
 refine lc (QW (Qa rfl) (Qs 126 rfl) rfl) ?_
 refine w_ ?_
 refine cn_ (fun _ _=> ?_) fun _ _=> ?_
 refine w9 ?_
 refine lc (Qi Qbx rfl (aq.1 rfl) rfl rfl) ?_
 refine lc (dBs 9 (e:=Z4) Uq (hab:=by exact ⟨_,_,_,_,rfl,⟨[.val (.slice none 0 0)],[.val (.slice none 0 0)],_,_,_,_,rfl,rfl,(.inr ⟨rfl,rfl,rfl⟩),(.inr ⟨rfl,rfl,rfl⟩),rfl⟩,⟨rfl,rfl⟩,rfl⟩)) ?_
 refine lc (dA 10 Qbm) ?_
 refine w6 ?_
 apply dW (i7 74 _ _ _ _ _ _ _ (⟨some 81,lR 11,[ar 11 86 Qv ([((-1),false)])]⟩ :: ⟨some 82,lR 12,[ar 12 86 Qv (b.1.2.2.1++([((-1),false)])),(4,none),(11,none)]⟩ :: i3 83 _ _ _ [⟨none,lf (.val undef),[bx 0 341 [dI b.1.1.1, .ref 10, .ref 1, .ref 12,dS b.1.2.2.2, .ref 2, .ref 7]]⟩])) [0,1,1,1,1,1,63,63,1,0,0,0,0]
 refine z7 ?_
 refine zz (fun _ d=>ac (dBs 11 (e:=Qv) XN (hab:=by exact ⟨_,_,_,_,rfl,⟨[dI (-1)],[dB false],_,_,_,_,rfl,rfl,⟨rfl,rfl⟩,⟨rfl,rfl⟩,rfl⟩,⟨rfl,rfl⟩,rfl⟩)) rfl) ?_
 refine zz (fun _ d=>ac (dA 12 QaH) rfl) ?_
 refine z3 ?_
 refine zz (fun _ d=>ac (QX (d.v rfl) (d.en 0 rfl) (d.w rfl) (by simp only[Q2,WB,bj,bz]; rw[(d.en 12 rfl)]; rfl) Qom rfl) rfl) ?_
 exact zN
 refine w6 ?_
 refine lc (Wl (Qa rfl) (Qo rfl) rfl (by first | omega | (simp only[ah,ap,aD]; omega))) ?_
 refine w3 ?_
 have H:(((b.2.2++([word])).length:Int) - 1:Int)=(trI b word):=by
  (unfold trI; rw[Hd (ZZ a (by omega)),ah]; simp)
 exact fi_ [(3,10),(4,12),(5,7)] C ⟨(((congrArg (fun z_=>some (Ent.box 341 [dI z_, .ref 10, .ref 1, .ref 12,dS b.1.2.2.2, .ref 2, .ref 7])) (show (b.1.1.1:Int)=(Zi b word).1.1.1 by (rw[ZW (ZZ a (by omega))]; done)))).trans (congrArg (fun z_=>some (Ent.box 341 [dI ((Zi b word).1.1.1), .ref 10, .ref 1, .ref 12,dS z_, .ref 2, .ref 7])) (show (b.1.2.2.2:ByteArray)=(Zi b word).1.2.2.2 by (rw[ZW (ZZ a (by omega))]; done)))),(Qh (by (rw[ZW (ZZ a (by omega))]; done))),(Qh (by (rw[ZW (ZZ a (by omega))]; done))),(Qh (by (rw[ZW (ZZ a (by omega)),← Qr9 n r ‹_›]; done))),(Qh (by (rw[ZW (ZZ a (by omega))]; done))),(Qh (by (rw[ZW (ZZ a (by omega))]; done))),trivial⟩ (h0:=by rw[H] <;> rfl)
 obtain ⟨cz,u⟩:=gs nm (((nm.size:Int) - 1).toNat)
 have E:=u
 apply dZ (i7 42 _ _ _ _ _ _ _ (io 49 (lI (nm.size:Int)) :: io 50 (lI ((nm.size:Int) - 1)) :: io 51 (lf (dS (nm.extract 0 ((nm.size:Int) - 1).toNat))) :: io 52 (lI (ZD (fun x:QB=>decide (x.1=(nm.extract 0 ((nm.size:Int) - 1).toNat))) b.1.2.1)) :: i2 53 _ _ [io 55 (lI (nm.size:Int)),io 56 (lI ((nm.size:Int) - 1)),io 57 _,io 58 (lB (decide (cz=43))),io 59 (ag [dI (ZD (fun x:QB=>decide (x.1=(nm.extract 0 ((nm.size:Int) - 1).toNat))) b.1.2.1),dB (decide (cz=43))]),⟨none,lf (.val undef),[bx 8 86 [dI (ZD (fun x:QB=>decide (x.1=(nm.extract 0 ((nm.size:Int) - 1).toNat))) b.1.2.1),dB (decide (cz=43))]]⟩])) [0,0,0,0,0,31,63,63,63,31,0,2047,4095,4095,4095,2047,2047,0,0]
 refine z7 ?_
 refine zz (fun _ d=>ac (Zq (d.v rfl) rfl Q9) rfl)<|zz (fun _ d=>ac (Wl (d.v rfl) (Qo rfl) rfl (by first | omega | (simp only[ah,ap,aD]; omega))) rfl)<|zz (fun _ d=>ac (show Does _ _ _ _ (St.put _ 51 (lf (dS (nm.extract 0 ((nm.size:Int) - 1).toNat)))) from Q0 (l:=none) (h:=(some ((nm.size:Int) - 1))) (d.v rfl) (by exact trivial) (by exact (d.v rfl)) Q9 rfl (by first | omega | (simp only[ao,ak]; omega)) (by first | omega | (simp only[ao,ak]; omega)) (by first | omega | (simp only[ao,ak]; omega))) rfl) ?_
 refine zz (fun _ d=>ac (dB_ (VS b.1.2.1 (nm.extract 0 ((nm.size:Int) - 1).toNat)) QcS) rfl) ?_
 refine z2 ?_
 refine zz (fun _ d=>ac (Zq (d.v rfl) rfl Q9) rfl)<|zz (fun _ d=>ac (Wl (d.v rfl) (Qo rfl) rfl (by first | omega | (simp only[ah,ap,aD]; omega))) rfl) ?_
 refine z_ ?_
 refine zz (fun _ d=>ac (Qp (d.v rfl) (Qs 43 rfl) rfl) rfl)<|zz (fun _ d=>ac (Qi Va ⟨_,_,rfl,(d.w rfl),⟨_,_,rfl,(d.w rfl),rfl⟩⟩ (aq.1 rfl) rfl rfl) rfl) ?_
 exact y1
 refine w8 ?_
 refine lc (Qi Qbx rfl (aq.1 rfl) rfl rfl) ?_
 refine lc (dBs 13 (e:=Z4) Uq (hab:=by exact ⟨_,_,_,_,rfl,⟨[.val (.slice none 0 0)],[.val (.slice none 0 0)],_,_,_,_,rfl,rfl,(.inr ⟨rfl,rfl,rfl⟩),(.inr ⟨rfl,rfl,rfl⟩),rfl⟩,⟨rfl,rfl⟩,rfl⟩)) ?_
 refine lc (dA 14 Qbm) ?_
 refine w6 ?_
 apply dW (i7 74 _ _ _ _ _ _ _ (⟨some 81,lR 15,[ar 15 86 Qv ([(ZD (fun x:QB=>decide (x.1=(nm.extract 0 ((nm.size:Int) - 1).toNat))) b.1.2.1,decide (cz=43))])]⟩ :: ⟨some 82,lR 16,[ar 16 86 Qv (b.1.2.2.1++([(ZD (fun x:QB=>decide (x.1=(nm.extract 0 ((nm.size:Int) - 1).toNat))) b.1.2.1,decide (cz=43))])),(4,none),(15,none)]⟩ :: i3 83 _ _ _ [⟨none,lf (.val undef),[bx 0 341 [dI b.1.1.1, .ref 14, .ref 1, .ref 16,dS b.1.2.2.2, .ref 2, .ref 7]]⟩])) [0,1,1,1,1,1,63,63,1,0,0,0,0]
 refine z7 ?_
 refine zz (fun _ d=>ac (dBs 15 (e:=Qv) XN (hab:=by exact ⟨_,_,_,_,rfl,⟨[dI (ZD (fun x:QB=>decide (x.1=(nm.extract 0 ((nm.size:Int) - 1).toNat))) b.1.2.1)],[dB (decide (cz=43))],_,_,_,_,rfl,rfl,⟨rfl,rfl⟩,⟨rfl,rfl⟩,rfl⟩,⟨rfl,rfl⟩,rfl⟩)) rfl) ?_
 refine zz (fun _ d=>ac (dA 16 QaH) rfl) ?_
 refine z3 ?_
 refine zz (fun _ d=>ac (QX (d.v rfl) (d.en 0 rfl) (d.w rfl) (by simp only[Q2,WB,bj,bz]; rw[(d.en 16 rfl)]; rfl) Qom rfl) rfl) ?_
 exact zN
 refine w6 ?_
 refine lc (Wl (Qa rfl) (Qo rfl) rfl (by first | omega | (simp only[ah,ap,aD]; omega))) ?_
 refine w3 ?_
 have A:(((b.2.2++([word])).length:Int) - 1:Int)=(trI b word):=by
  (unfold trI; rw[Hd (ZZ a (by omega)),ah]; simp)
 exact fi_ [(3,14),(4,16),(5,7)] C ⟨(((congrArg (fun z_=>some (Ent.box 341 [dI z_, .ref 14, .ref 1, .ref 16,dS b.1.2.2.2, .ref 2, .ref 7])) (show (b.1.1.1:Int)=(Zi b word).1.1.1 by (rw[ZW (ZZ a (by omega))]; done)))).trans (congrArg (fun z_=>some (Ent.box 341 [dI ((Zi b word).1.1.1), .ref 14, .ref 1, .ref 16,dS z_, .ref 2, .ref 7])) (show (b.1.2.2.2:ByteArray)=(Zi b word).1.2.2.2 by (rw[ZW (ZZ a (by omega))]; done)))),(Qh (by (rw[ZW (ZZ a (by omega))]; done))),(Qh (by (rw[ZW (ZZ a (by omega))]; done))),(Qh (by (rw[ZW (ZZ a (by omega)),← QrM n r ‹_› E]; done))),(Qh (by (rw[ZW (ZZ a (by omega))]; done))),(Qh (by (rw[ZW (ZZ a (by omega))]; done))),trivial⟩ (h0:=by rw[A] <;> rfl)
 have q:=ab o
 refine w7 ?_
 obtain ⟨x,j⟩:=gx b.2.2 k
 have f:=j
 refine w9 ?_
 cases g:(decide (x=word))
 have m:=aa g
 refine w4 ?_
 refine lc (Xd (Qa rfl) (Qo rfl) rfl (by first | omega | (simp only[ah,ap,aD]; omega))) ?_
 refine w_ ?_
 refine Qc ?_
 refine lK_ (a.step j (aI ‹_›)) ?_
 exact wo []
 have m:=ab g
 refine w6 ?_
 have B:((k:Int):Int)=(trI b word):=by
  exact QoS a f ‹_›
 exact fi_ [] C ⟨(((congrArg (fun z_=>some (Ent.box 341 [dI z_, .ref 3, .ref 1, .ref 4,dS b.1.2.2.2, .ref 2, .ref 5])) (show (b.1.1.1:Int)=(Zi b word).1.1.1 by (rw[WJ (YG f ‹_›)]; done)))).trans (congrArg (fun z_=>some (Ent.box 341 [dI ((Zi b word).1.1.1), .ref 3, .ref 1, .ref 4,dS z_, .ref 2, .ref 5])) (show (b.1.2.2.2:ByteArray)=(Zi b word).1.2.2.2 by (rw[WJ (YG f ‹_›)]; done)))),(Qh (by (rw[WJ (YG f ‹_›)]; done))),(Qh (by (rw[WJ (YG f ‹_›)]; done))),(Qh (by (rw[WJ (YG f ‹_›)]; done))),(Qh (by (rw[WJ (YG f ‹_›)]; done))),(Qh (by (rw[WJ (YG f ‹_›)]; done))),trivial⟩ (h0:=by rw[B] <;> rfl)
end Go.Proofs.YtgpdhgadmjfokaaGreat
