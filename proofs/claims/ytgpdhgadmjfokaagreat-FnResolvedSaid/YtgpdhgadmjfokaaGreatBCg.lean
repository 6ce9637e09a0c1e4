/- Graphs built from words, as the draws build them. Plain law. -/
import Derived.Test.YtgpdhgadmjfokaaGreatBCb
import Derived.Test.YtgpdhgadmjfokaaGreatBVe
import Derived.Test.YtgpdhgadmjfokaaGreatBBe
import Derived.Test.YtgpdhgadmjfokaaGreatBAv
import Derived.Test.YtgpdhgadmjfokaaGreatBWk
import Derived.Test.YtgpdhgadmjfokaaGreatBAk
import Derived.Test.YtgpdhgadmjfokaaGreatBStr
import Derived.Test.YtgpdhgadmjfokaaGreatProg
import Derived.KernelRfl
import Derived.Test.YtgpdhgadmjfokaaGreatBAl
import Derived.Test.YtgpdhgadmjfokaaGreatBWw
set_option linter.unusedSimpArgs false
set_option linter.unusedVariables false
set_option linter.unusedSectionVars false
namespace Go.Proofs.YtgpdhgadmjfokaaGreat
open Go.RowKit
set_option maxRecDepth 100000
set_option maxHeartbeats 4000000
def spS (s:ByteArray)(b:UInt8):Nat→List ByteArray×Int
 | 0=>([],0)
 | i+1=>if s[i]? =some b then ((spS s b i).1++[s.extract (spS s b i).2.toNat i],(i:Int)+1) else spS s b i
def ZW (s:ByteArray)(b:UInt8):List ByteArray:=(spS s b s.size).1++[s.extract (spS s b s.size).2.toNat s.size]
section
variable {s:ByteArray}{b c:UInt8}{i:Nat}
theorem QuT (h:s[i]? =some c)(e:c=b):((spS s b i).1++[s.extract (spS s b i).2.toNat i],(i:Int)+1)=spS s b (i+1):=by rw[spS,if_pos (by rw[h,e])]
theorem Qv6 (h:s[i]? =some c)(e:¬c=b):spS s b i=spS s b (i+1):=by rw[spS,if_neg (by rw[h]; simpa using e)]
theorem Qoh:0≤(spS s b i).2∧(spS s b i).2≤(i:Int)∧(spS s b i).1.length≤i:=by
 induction i with
 | zero=>exact ⟨Int.le_refl _,Int.le_refl _,aO _⟩
 | succ i d=>
  rw[spS]
  split
  ·refine ⟨by show (0:Int)≤(i:Int)+1; omega,by show ((i:Int)+1)≤((i+1:Nat):Int); omega, ?_⟩
   rw[ae,aj,aA]; omega
  ·obtain ⟨a,e,f⟩:=d; exact ⟨a,by omega,by omega⟩
theorem Qpi:(ZW s b).length≤s.size+1:=by
 unfold ZW
 have:=Qoh (s:=s) (b:=b) (i:=s.size)
 rw[ae,aj,aA]; omega
end
abbrev DTr:=List Int×List Int
abbrev DB:=Q5×List ByteArray×List ByteArray
def b0 (t:ByteArray):UInt8:=(t[0]?).getD 0
def bZ (t:ByteArray):UInt8:=(t[t.size - 1]?).getD 0
def HG (l:List ByteArray)(x:ByteArray):Bool:=l.any fun y=>decide (y=x)
def atB (l:List ByteArray)(x:ByteArray):Int:=if HG l x=true then Zl (fun y=>decide (y=x)) l else (l.length:Int)
def plV (b:DB)(name:ByteArray):DB:=if HG b.2.1 name=true then b else (((b.1.1.1+1,b.1.1.2),b.1.2.1,b.1.2.2.1,b.1.2.2.2++(⟨#[48]⟩:ByteArray)),b.2.1++[name],b.2.2)
def plI (b:DB)(name:ByteArray):Int:=atB b.2.1 name
def Qa1 (word:ByteArray):ByteArray:=((ZW word 47)[0]?).getD ByteArray.empty
def QkQ (G:List QD)(word:ByteArray):Zb:=if b0 (Qa1 word)=126 then (-1,false) else (Zl (fun g=>decide (g.1=(Qa1 word).extract 0 ((Qa1 word).size - 1))) G,decide (bZ (Qa1 word)=43))
def ZA (b:DB)(word:ByteArray):DB:=if HG b.2.2 word=true then b else (((b.1.1.1,b.1.1.2++[([],[])]),b.1.2.1,b.1.2.2.1++[QkQ b.1.2.1 word],b.1.2.2.2),b.2.1,b.2.2++[word])
def trI (b:DB)(word:ByteArray):Int:=atB b.2.2 word
def Hz (text:ByteArray):ByteArray:=if b0 text=42 then text.extract 1 text.size else text
def XM (text:ByteArray)(k:Nat):ByteArray:=((ZW (Hz text) 62)[k]?).getD ByteArray.empty
def QaK (text:ByteArray):ByteArray:=if b0 (XM text 1)=95 then XM text 1 else if b0 (XM text 0)=95 then XM text 0 else Hz text
def QfA (T:List DTr)(t p:Int):List DTr:=T.modify t.toNat fun x=>(x.1,Z9 ltI p x.2)
def QfI (T:List DTr)(t p:Int):List DTr:=T.modify t.toNat fun x=>(Z9 ltI p x.1,x.2)
def ar1 (p:Int)(b:DB)(text:ByteArray):DB:=if b0 (XM text 0)=95 then b else
 let c:=ZA b (XM text 0); (((c.1.1.1,QfA c.1.1.2 (trI b (XM text 0)) p),c.1.2.1,c.1.2.2.1,c.1.2.2.2),c.2.1,c.2.2)
def ar2 (p:Int)(b:DB)(text:ByteArray):DB:=if b0 (XM text 1)=95 then b else
 let c:=ZA b (XM text 1); (((c.1.1.1,QfI c.1.1.2 (trI b (XM text 1)) p),c.1.2.1,c.1.2.2.1,c.1.2.2.2),c.2.1,c.2.2)
def Qri (s:ByteArray)(p:Int):ByteArray:=s.extract 0 p.toNat++(⟨#[49]⟩:ByteArray)++s.extract (p+1).toNat s.size
def arV (b:DB)(text:ByteArray):DB:=
 let p:=plI b (QaK text)
 let c:=ar2 p (ar1 p (plV b (QaK text)) text) text
 if b0 text=42 then ((c.1.1,c.1.2.1,c.1.2.2.1,Qri c.1.2.2.2 p),c.2.1,c.2.2) else c
def sgN (names:ByteArray)(kd:Int)(i:Nat):List QD:=(List.range i).map fun j=>(names.extract j (j+1),kd)
def sgA:List ByteArray→Int→List QD
 | [],_=>[]
 | n :: l,k=>sgN n k n.size++sgA l (k+1)
def buG (ins outs inner:ByteArray):List QD:=sgA [ins,outs,inner] 1
def buB (G:List QD)(arcs:ByteArray):DB:=(ZW arcs 32).foldl arV (((0,[]),G,[],ByteArray.empty),[],[])
def QJ (ins outs inner arcs:ByteArray):Q5:=(buB (buG ins outs inner) arcs).1
def okW (w:ByteArray):Bool:=decide (1≤w.size)&&(decide (b0 w=95)||decide (1≤(Qa1 w).size))
def okA (t:ByteArray):Bool:=decide (1≤t.size)&&(decide (2≤(ZW (Hz t) 62).length)&&(okW (XM t 0)&&okW (XM t 1)))
section
variable {l:List ByteArray}{x name word text:ByteArray}{b c:DB}{G:List QD}{n k:Nat}
theorem Qvs {α:Type _}{f:α→Bool}{l:List α}(h:l.any f=true):0≤Zl f l∧Zl f l < (l.length:Int):=by
 have a:=VQ f l
 rw[h,aU] at a
 refine ⟨a, ?_⟩
 unfold Zl at*
 cases d:l.findIdx? f with
 | none=>rw[d] at a; simp at a
 | some i=>
  have:=(cA.1 d).1
  simpa using this
theorem QsK (h:HG l x=true):0≤atB l x∧atB l x < (l.length:Int):=by
 unfold atB; rw[if_pos h]; exact Qvs h
theorem QaH (h:HG l x=false):atB l x=(l.length:Int):=if_neg (by rw[h]; decide)
theorem Qsr (f:NoneTo (fun y=>decide (y=x)) l k){y:ByteArray}(a:l[k]? =some y)(e:y=x):(k:Int)=atB l x:=by
 unfold atB
 have d:HG l x=true:=Qtp a (aQ e)
 rw[if_pos d,f.at a (aQ e)]
theorem Xf {y:ByteArray}(a:l[k]? =some y)(e:y=x):HG l x=true:=Qtp a (aQ e)
theorem Ym (d:NoneTo (fun y=>decide (y=x)) l k)(a:l.length≤k):HG l x=false:=d.any_no a
theorem KA (h:HG b.2.1 name=true):plV b name=b:=if_pos h
theorem VG (h:HG b.2.1 name=false):plV b name=(((b.1.1.1+1,b.1.1.2),b.1.2.1,b.1.2.2.1,b.1.2.2.2++(⟨#[48]⟩:ByteArray)),b.2.1++[name],b.2.2):=if_neg (by rw[h]; decide)
theorem VD (h:HG b.2.2 word=true):ZA b word=b:=if_pos h
theorem Yk (h:HG b.2.2 word=false):ZA b word=(((b.1.1.1,b.1.1.2++[([],[])]),b.1.2.1,b.1.2.2.1++[QkQ b.1.2.1 word],b.1.2.2.2),b.2.1,b.2.2++[word]):=if_neg (by rw[h]; decide)
structure DBJ (b:DB) (p w m:Nat):Prop where
  st:b.1.2.2.2.size=b.2.1.length
  tr:b.1.1.2.length=b.2.2.length
  la:b.1.2.2.1.length=b.2.2.length
  p0:b.1.1.1=(b.2.1.length:Int)
  pl:b.2.1.length≤p
  ws:b.2.2.length≤w
  inn:∀t∈b.1.1.2,t.1.length≤m∧t.2.length≤m
theorem QoB:0≤plI b name∧plI b name < ((plV b name).2.1.length:Int):=by
 unfold plI
 cases h:HG b.2.1 name with
 | true=>rw[KA h]; exact QsK h
 | false=>rw[VG h,QaH h,ae]; simp only[aj,aA]; omega
theorem Qn3:0≤trI b word∧trI b word < ((ZA b word).2.2.length:Int):=by
 unfold trI
 cases h:HG b.2.2 word with
 | true=>rw[VD h]; exact QsK h
 | false=>rw[Yk h,QaH h,ae]; simp only[aj,aA]; omega
theorem QgB:(ZA b word).1.1.1=b.1.1.1∧(ZA b word).1.2.1=b.1.2.1∧(ZA b word).1.2.2.2=b.1.2.2.2∧(ZA b word).2.1=b.2.1:=by unfold ZA; split <;> exact ⟨rfl,rfl,rfl,rfl⟩
theorem DBJ.pl_ {p w m:Nat}(h:DBJ b p w m):DBJ (plV b name) (p+1) w m:=by
 cases a:HG b.2.1 name with
 | true=>rw[KA a]; exact ⟨h.st,h.tr,h.la,h.p0,da h.pl,h.ws,h.inn⟩
 | false=>
  rw[VG a]
  have d:(⟨#[48]⟩:ByteArray).size=1:=rfl
  refine ⟨?_,h.tr,h.la, ?_, ?_,h.ws,h.inn⟩
  ·show (b.1.2.2.2++(⟨#[48]⟩:ByteArray)).size=(b.2.1++[name]).length
   rw[aX,ae,h.st,d]; rfl
  ·show b.1.1.1+1=((b.2.1++[name]).length:Int)
   rw[ae,h.p0]; simp
  ·show (b.2.1++[name]).length≤p+1
   rw[ae]; have:=h.pl; simp only[aj,aA]; omega
theorem DBJ.tr_ {p w m:Nat}(h:DBJ b p w m):DBJ (ZA b word) p (w+1) m:=by
 cases d:HG b.2.2 word with
 | true=>rw[VD d]; exact ⟨h.st,h.tr,h.la,h.p0,h.pl,da h.ws,h.inn⟩
 | false=>
  rw[Yk d]
  refine ⟨h.st, ?_, ?_,h.p0,h.pl, ?_, ?_⟩
  ·show (b.1.1.2++[([],[])]).length=(b.2.2++[word]).length
   rw[ae,ae,h.tr]; rfl
  ·show (b.1.2.2.1++[QkQ b.1.2.1 word]).length=(b.2.2++[word]).length
   rw[ae,ae,h.la]; rfl
  ·show (b.2.2++[word]).length≤w+1
   rw[ae]; have:=h.ws; simp only[aj,aA]; omega
  ·intro t a
   rcases aE.1 a with a | a
   ·exact h.inn t a
   ·rw[aB.1 a]; exact ⟨aS _,aS _⟩
theorem Qnh {T:List DTr}{m i:Nat}{f:DTr→DTr}(h:∀t∈T,t.1.length≤m∧t.2.length≤m)(e:∀t,(f t).1.length≤t.1.length+1∧(f t).2.length≤t.2.length+1):∀t∈T.modify i f,t.1.length≤m+1∧t.2.length≤m+1:=fun t g=>by
 obtain ⟨j,a⟩:=aM.1 g
 rw[cV] at a
 cases d:T[j]? with
 | none=>rw[d] at a; cases a
 | some u=>
  rw[d] at a
  have p:=h u (ah d)
  have o:=e u
  have a:some (if i=j then f u else u)=some t:=a
  cases a
  split <;> omega
theorem DBJ.st_ {p w m:Nat}{q:Int}(h:DBJ b p w m)(e:0≤q∧q < (b.2.1.length:Int)):DBJ ((b.1.1,b.1.2.1,b.1.2.2.1,Qri b.1.2.2.2 q),b.2.1,b.2.2) p w m:=by
 refine ⟨?_,h.tr,h.la,h.p0,h.pl,h.ws,h.inn⟩
 have a:(⟨#[49]⟩:ByteArray).size=1:=rfl
 have d:=h.st
 show (Qri b.1.2.2.2 q).size=b.2.1.length
 unfold Qri
 simp only[aX,aW,a]
 omega
theorem DBJ.more {p w m f w' e:Nat}(h:DBJ b p w m)(g:p≤f)(j:w≤w')(a:m≤e):DBJ b f w' e:=⟨h.st,h.tr,h.la,h.p0,bl h.pl g,bl h.ws j,fun t d=>⟨bl (h.inn t d).1 a,bl (h.inn t d).2 a⟩⟩
theorem DBJ.ar1_ {p w m:Nat}{q:Int}(h:DBJ b p w m):DBJ (ar1 q b text) p (w+1) (m+1):=by
 unfold ar1
 split
 ·exact h.more (aO _) (by omega) (by omega)
 ·have k:=h.tr_ (word:=XM text 0)
  exact ⟨k.st,(List.length_modify ..).trans k.tr,k.la,k.p0,k.pl,k.ws,Qnh k.inn fun t=>⟨Nat.le_succ _,Qe2 _ _⟩⟩
theorem DBJ.ar2_ {p w m:Nat}{q:Int}(h:DBJ b p w m):DBJ (ar2 q b text) p (w+1) (m+1):=by
 unfold ar2
 split
 ·exact h.more (aO _) (by omega) (by omega)
 ·have k:=h.tr_ (word:=XM text 1)
  exact ⟨k.st,(List.length_modify ..).trans k.tr,k.la,k.p0,k.pl,k.ws,Qnh k.inn fun t=>⟨Qe2 _ _,Nat.le_succ _⟩⟩
theorem Qsz {q:Int}:(ar1 q b text).2.1=b.2.1:=by unfold ar1; split; exact rfl; exact QgB.2.2.2
theorem Qtl {q:Int}:(ar2 q b text).2.1=b.2.1:=by unfold ar2; split; exact rfl; exact QgB.2.2.2
theorem DBJ.ar_ {p w m:Nat}(h:DBJ b p w m):DBJ (arV b text) (p+1) (w+2) (m+2):=by
 have d:=h.pl_ (name:=QaK text)
 have e:=d.ar1_ (q:=plI b (QaK text)) (text:=text)
 have a:=e.ar2_ (q:=plI b (QaK text)) (text:=text)
 unfold arV
 dsimp only
 split
 ·exact a.st_ (by rw[Qtl,Qsz]; exact QoB)
 ·exact a
theorem DBJ.zero (G:List QD):DBJ (((0,[]),G,[],ByteArray.empty),[],[]) 0 0 0:=⟨rfl,rfl,rfl,rfl,aO _,aO _,fun t h=>by cases h⟩
end
end Go.Proofs.YtgpdhgadmjfokaaGreat
namespace Go.Proofs.YtgpdhgadmjfokaaGreat
open Go.RowKit
set_option maxRecDepth 100000
set_option maxHeartbeats 4000000
section
variable {s:ByteArray}{b c:UInt8}{i:Nat}{out:List ByteArray}{fr:Int}
theorem QoQ (a:(out,fr)=spS s b i)(hi:s.size≤i)(d:i≤s.size):out++[s.extract fr.toNat s.size]=ZW s b:=by
 have e:i=s.size:=by omega
 subst e
 unfold ZW
 rw[← a]
theorem QpE (a:(out,fr)=spS s b i)(h:s[((i:Nat):Int).toNat]? =some c)(e:c=b):(out++[s.extract fr.toNat ((i:Nat):Int).toNat],(i:Int)+1)=spS s b (i+1):=by
 rw[cM] at h ⊢
 rw[← QuT h e,← a]
theorem QqD (s:ByteArray)(b:UInt8):1≤(ZW s b).length:=by unfold ZW; rw[ae,aj,aA]; omega
theorem QaD {x:ByteArray}(h:x∈ZW s b):x.size≤s.size:=by
 have d:∀i,∀x∈(spS s b i).1,x.size≤s.size:=fun i=>by
  induction i with
  | zero=>intro x h; cases h
  | succ i a=>
   intro x h
   rw[spS] at h
   split at h
   ·rcases aE.1 h with h | h
    ·exact a x h
    ·rw[aB.1 h]; simp only[aW]; omega
   ·exact a x h
 unfold ZW at h
 rcases aE.1 h with h | h
 ·exact d _ x h
 ·rw[aB.1 h]; simp only[aW]; omega
theorem Qsm (a:(out,fr)=spS s b i)(h:s[((i:Nat):Int).toNat]? =some c)(e:¬c=b):(out,fr)=spS s b (i+1):=by
 rw[cM] at h
 rw[← Qv6 h e,← a]
end
theorem Vq (s:ByteArray)(b:UInt8)(F:s.size≤100000):FC Tryz.prog 380 [(false,[dS s]),(false,[.dat .u8 b])] [] 0 (YJ 9 .str (ZW s b)):=by
 refine Qt Tryz.func380 rfl rfl Tryz.ntmps380 fun D A C v E z y=> ?_
 refine w14 ?_
 refine AC.wk (Wk.nilS 0 5 9 .str rfl (Fresh.of rfl) (nlr rfl)) ?_
 refine QL (fun r u=>∃(i:Nat) (out:List ByteArray) (fr:Int),i≤s.size∧r=s.size - i∧((out,fr)=spS s b i)∧u=⟨[(0,lf (dS s)),(1,lf (.dat .u8 b)),(4,lf (.val (.slice none 0 0))),(5,lR 1),(6,lI fr),(7,lI (i:Int))],[ar 1 9 .str out]⟩) ⟨0,([]:(Qm:Ty).Den),0,aS _,rfl,rfl,rfl⟩ ?_ ?_
 exact wp [(1,0)] ⟨(Qe (by first | rfl | simp)),trivial⟩
 rintro r u ⟨i,out,fr,q,B,n,rfl⟩
 have m:=Qoh (s:=s) (b:=b) (i:=i)
 rw[← n] at m
 dsimp only at m
 refine w4 ?_
 refine alS 9 fun _=> ?_
 refine lc (ZJ (Qa rfl) rfl Zf) ?_
 refine w2 ?_
 cases a:(decide ((i:Int) < (s.size:Int)))
 have d:=aa a
 refine w7 ?_
 refine lc (show Does _ _ _ _ (St.put _ 31 (lf (dS (s.extract (fr).toNat s.size)))) from Zj (l:=(some fr)) (h:=none) (Qa rfl) (by exact (Qa rfl)) (by exact trivial) Zf rfl (by first | omega | (simp only[av,ao]; omega)) (by first | omega | (simp only[av,ao]; omega)) (by first | omega | (simp only[av,ao]; omega))) ?_
 refine lc (dBs 2 (e:= .str) Va) ?_
 refine lc (dA 3 Js) ?_
 refine w2 ?_
 refine Qd<|fo_ A ?_
 exact QoQ n (by omega) q
 have d:=ab a
 refine w7 ?_
 obtain ⟨w,o⟩:=gs s (((i:Int)).toNat)
 have j:=o
 refine w4 ?_
 cases f:(decide (w=b))
 have g:=aa f
 refine w7 ?_
 refine Qb<|Q2 ⟨i+1,out,fr,by omega,rfl,(by exact Qsm n j ‹_›),rfl⟩ (by omega) ?_
 exact wo []
 have g:=ab f
 refine w6 ?_
 refine lc (show Does _ _ _ _ (St.put _ 23 (lf (dS (s.extract (fr).toNat ((i:Int)).toNat)))) from Zj (l:=(some fr)) (h:=(some (i:Int))) (Qa rfl) (by exact (Qa rfl)) (by exact (Qa rfl)) Zf rfl (by first | omega | (simp only[av,ao]; omega)) (by first | omega | (simp only[av,ao]; omega)) (by first | omega | (simp only[av,ao]; omega))) ?_
 refine lc (dBs 4 (e:= .str) Va) ?_
 refine lc (dA 5 Js) ?_
 refine w6 ?_
 refine Qb ?_
 refine w5 ?_
 refine Qb<|Q2 ⟨i+1,(out++([s.extract (fr).toNat ((i:Int)).toNat])),((i:Int)+1),by omega,rfl,(by exact QpE n j ‹_›),rfl⟩ (by omega) ?_
 exact wp [(1,5)] ⟨(Qe (by first | rfl | simp)),trivial⟩
section
variable {word text nm:ByteArray}{G:List QD}{c0 cz:UInt8}{k:Nat}{x:DTr}{T_:List DTr}{t p:Int}
theorem Qwx (d:Qa1 word=nm)(a:nm[(0:Int).toNat]? =some c0)(h:c0=126):((-1,false):Zb)=QkQ G word:=by
 unfold QkQ b0
 rw[d,show nm[0]? =some c0 from a]
 exact (if_pos (show (some c0).getD 0=126 from h)).symm
theorem Qw7 (f:Qa1 word=nm)(d:nm[(0:Int).toNat]? =some c0)(h:¬c0=126)(a:nm[((nm.size:Int) - 1).toNat]? =some cz):
 ((Zl (fun g=>decide (g.1=nm.extract 0 ((nm.size:Int) - 1).toNat)) G,decide (cz=43)):Zb)=QkQ G word:=by
 unfold QkQ b0 bZ
 have e:((nm.size:Int) - 1).toNat=nm.size - 1:=by omega
 rw[e] at a ⊢
 rw[f,show nm[0]? =some c0 from d]
 refine Eq.trans ?_ (if_neg (show¬(some c0).getD 0=126 from h)).symm
 rw[a]; rfl
theorem QpX (a:T_[t.toNat]? =some x):T_.set t.toNat (x.1,Z9 ltI p x.2)=QfA T_ t p:=by
 unfold QfA
 apply bK
 intro i
 rw[bE,cV]
 by_cases e:t.toNat=i
 ·subst e; rw[a]; simp[(ai.1 a).1]
 ·simp[e]
theorem QqB (a:T_[t.toNat]? =some x):T_.set t.toNat (Z9 ltI p x.1,x.2)=QfI T_ t p:=by
 unfold QfI
 apply bK
 intro i
 rw[bE,cV]
 by_cases e:t.toNat=i
 ·subst e; rw[a]; simp[(ai.1 a).1]
 ·simp[e]
end
theorem QaO (b:DB)(name:ByteArray)(B:0≤b.1.1.1∧b.1.1.1≤100000)(A:b.2.1.length≤100000∧b.1.2.2.2.size≤100000):FC Tryz.prog 438 [(false,[.ptr 0 0]),(false,[dS name])] [bx 0 341 [dI b.1.1.1, .ref 1, .ref 2, .ref 3,dS b.1.2.2.2, .ref 5, .ref 4],ar 1 245 Zs b.1.1.2,ar 2 44 Qz b.1.2.1,ar 3 86 Qy b.1.2.2.1,ar 5 9 .str b.2.1,ar 4 9 .str b.2.2] 5 (Is (lI (plI b name)) [bx 0 341 [dI ((plV b name).1.1.1), .ref 1, .ref 2, .ref 3,dS ((plV b name).1.2.2.2), .ref 5, .ref 4],ar 1 245 Zs ((plV b name).1.1.2),ar 2 44 Qz ((plV b name).1.2.1),ar 3 86 Qy ((plV b name).1.2.2.1),ar 5 9 .str ((plV b name).2.1),ar 4 9 .str ((plV b name).2.2)]):=by
 refine Qt Tryz.func438 rfl rfl Tryz.ntmps438 fun w m v n z u r=> ?_
 refine w13 ?_
 refine lpK b.2.1.length (fun k=>NoneTo (fun y=>decide (y=name)) b.2.1 k) (fun k=>⟨[(0,lP 0 0),(1,lf (dS name)),(10,lR 5),(11,lI (b.2.1.length:Int)),(12,lI (k:Int))],[bx 0 341 [dI b.1.1.1, .ref 1, .ref 2, .ref 3,dS b.1.2.2.2, .ref 5, .ref 4],ar 1 245 Zs b.1.1.2,ar 2 44 Qz b.1.2.1,ar 3 86 Qy b.1.2.2.1,ar 4 9 .str b.2.2,ar 5 9 .str b.2.1]⟩) (NoneTo.zero) ?_ fun k _ a=> ?_
 exact wo []
 refine w4 ?_
 cases f:(decide ((k:Int) < (b.2.1.length:Int)))
 have g:=aa f
 refine w10 ?_
 refine lc (dBs 6 (e:= .str) Va) ?_
 refine lc (dA 7 Js) ?_
 refine w10 ?_
 refine lc (Zn (Qa rfl) (Evl.str rfl) rfl (by (simp only[Xt]; omega))) ?_
 refine w12 ?_
 refine alI 46 fun _=> ?_
 refine lc (XQ (Qa rfl) (Qp rfl) rfl (by first | omega | (simp only[ae,aj,aA]; omega))) ?_
 refine w12 ?_
 refine lc (Vk (Qa rfl) (Qp rfl) rfl (by first | omega | (simp only[ae,aj,aA]; omega))) ?_
 refine w3 ?_
 have o:(((b.2.1++([name])).length:Int) - 1:Int)=(plI b name):=by
  (unfold plI; rw[QaH (Ym a (by omega)),ae]; simp)
 exact fi_ [(5,7)] m ⟨(((congrArg (fun z_=>some (Ent.box 341 [dI z_, .ref 1, .ref 2, .ref 3,dS (b.1.2.2.2++(⟨#[48]⟩:ByteArray)), .ref 7, .ref 4])) (show (b.1.1.1+1:Int)=(plV b name).1.1.1 by (rw[VG (Ym a (by omega))]; done)))).trans (congrArg (fun z_=>some (Ent.box 341 [dI ((plV b name).1.1.1), .ref 1, .ref 2, .ref 3,dS z_, .ref 7, .ref 4])) (show (b.1.2.2.2++(⟨#[48]⟩:ByteArray):ByteArray)=(plV b name).1.2.2.2 by (rw[VG (Ym a (by omega))]; done)))),(Qe (by (rw[VG (Ym a (by omega))]; done))),(Qe (by (rw[VG (Ym a (by omega))]; done))),(Qe (by (rw[VG (Ym a (by omega))]; done))),(Qe (by (rw[VG (Ym a (by omega))]; done))),(Qe (by (rw[VG (Ym a (by omega))]; done))),trivial⟩ (h0:=by rw[o] <;> rfl)
 have g:=ab f
 refine w7 ?_
 obtain ⟨x,l⟩:=gx b.2.1 k
 have d:=l
 refine w9 ?_
 cases h:(decide (x=name))
 have j:=aa h
 refine w4 ?_
 refine lc (XQ (Qa rfl) (Qp rfl) rfl (by first | omega | (simp only[ae,aj,aA]; omega))) ?_
 refine w_ ?_
 refine Qb ?_
 refine lK_ (a.step l (aH ‹_›)) ?_
 exact wo []
 have j:=ab h
 refine w6 ?_
 have q:((k:Int):Int)=(plI b name):=by
  exact Qsr a d ‹_›
 exact fi_ [] m ⟨(((congrArg (fun z_=>some (Ent.box 341 [dI z_, .ref 1, .ref 2, .ref 3,dS b.1.2.2.2, .ref 5, .ref 4])) (show (b.1.1.1:Int)=(plV b name).1.1.1 by (rw[KA (Xf d ‹_›)]; done)))).trans (congrArg (fun z_=>some (Ent.box 341 [dI ((plV b name).1.1.1), .ref 1, .ref 2, .ref 3,dS z_, .ref 5, .ref 4])) (show (b.1.2.2.2:ByteArray)=(plV b name).1.2.2.2 by (rw[KA (Xf d ‹_›)]; done)))),(Qe (by (rw[KA (Xf d ‹_›)]; done))),(Qe (by (rw[KA (Xf d ‹_›)]; done))),(Qe (by (rw[KA (Xf d ‹_›)]; done))),(Qe (by (rw[KA (Xf d ‹_›)]; done))),(Qe (by (rw[KA (Xf d ‹_›)]; done))),trivial⟩ (h0:=by rw[q] <;> rfl)
theorem Uz (b:DB)(word:ByteArray)(N:word.size≤1000∧1≤(Qa1 word).size)(R:b.1.1.2.length≤100000∧b.1.2.2.1.length≤100000∧b.2.2.length≤100000):FC Tryz.prog 439 [(false,[.ptr 0 0]),(false,[dS word])] [bx 0 341 [dI b.1.1.1, .ref 3, .ref 1, .ref 4,dS b.1.2.2.2, .ref 2, .ref 5],ar 3 245 Zs b.1.1.2,ar 1 44 Qz b.1.2.1,ar 4 86 Qy b.1.2.2.1,ar 2 9 .str b.2.1,ar 5 9 .str b.2.2] 3 (Is (lI (trI b word)) [bx 0 341 [dI ((ZA b word).1.1.1), .ref 3, .ref 1, .ref 4,dS ((ZA b word).1.2.2.2), .ref 2, .ref 5],ar 3 245 Zs ((ZA b word).1.1.2),ar 1 44 Qz ((ZA b word).1.2.1),ar 4 86 Qy ((ZA b word).1.2.2.1),ar 2 9 .str ((ZA b word).2.1),ar 5 9 .str ((ZA b word).2.2)]):=by
 have M:=QqD word 47
 refine Qt Tryz.func439 rfl rfl Tryz.ntmps439 fun P C O F Q J I=> ?_
 refine w13 ?_
 refine lpK b.2.2.length (fun k=>NoneTo (fun y=>decide (y=word)) b.2.2 k) (fun k=>⟨[(0,lP 0 0),(1,lf (dS word)),(12,lR 5),(13,lI (b.2.2.length:Int)),(14,lI (k:Int))],[bx 0 341 [dI b.1.1.1, .ref 3, .ref 1, .ref 4,dS b.1.2.2.2, .ref 2, .ref 5],ar 1 44 Qz b.1.2.1,ar 2 9 .str b.2.1,ar 3 245 Zs b.1.1.2,ar 4 86 Qy b.1.2.2.1,ar 5 9 .str b.2.2]⟩) (NoneTo.zero) ?_ fun k _ a=> ?_
 exact wo []
 refine w4 ?_
 cases o:(decide ((k:Int) < (b.2.2.length:Int)))
 have q:=aa o
 refine w10 ?_
 refine lc (dBs 6 (e:= .str) Va) ?_
 refine lc (dA 7 Js) ?_
 refine w6 ?_
 refine lc (Hb (Vq word 47 (by omega)).frozen Qap ⟨_,_,rfl,(Qo rfl),⟨_,_,rfl,(Evl.ev (Qw 47 rfl)),rfl⟩⟩ rfl rfl) ?_
 obtain ⟨nm,z⟩:=gx (ZW word 47) 0
 have n:Qa1 word=nm:=by unfold Qa1; rw[show (ZW word 47)[0]? =some nm from z]; rfl
 have L:1≤nm.size:=by rw[← n]; exact N.2
 have K:=QaD (ah z)
 refine w5 ?_
 refine lc (Qg Ws ⟨_,_,rfl,(Evl.ev (Qp rfl)),rfl⟩ (au.1 rfl) rfl rfl)<|lc (xal 8 Qy Y8) ?_
 refine w5 ?_
 obtain ⟨c0,D⟩:=gs nm ((0:Int).toNat)
 have r:=D
 refine w_ ?_
 refine lc (Q4 (Qa rfl) (Qw 126 rfl) rfl) ?_
 refine w_ ?_
 refine cn_ (fun _ _=> ?_) fun _ _=> ?_
 refine w9 ?_
 refine lc (Qg QdG rfl (au.1 rfl) rfl rfl) ?_
 refine lc (dBs 9 (e:=Zs) KN (hab:=by exact ⟨_,_,_,_,rfl,⟨[.val (.slice none 0 0)],[.val (.slice none 0 0)],_,_,_,_,rfl,rfl,(.inr ⟨rfl,rfl,rfl⟩),(.inr ⟨rfl,rfl,rfl⟩),rfl⟩,⟨rfl,rfl⟩,rfl⟩)) ?_
 refine lc (dA 10 QdK) ?_
 refine w6 ?_
 apply dW (i7 74 _ _ _ _ _ _ _ (⟨some 81,lR 11,[ar 11 86 Qy ([((-1),false)])]⟩ :: ⟨some 82,lR 12,[ar 12 86 Qy (b.1.2.2.1++([((-1),false)])),(4,none),(11,none)]⟩ :: i3 83 _ _ _ [⟨none,lf (.val undef),[bx 0 341 [dI b.1.1.1, .ref 10, .ref 1, .ref 12,dS b.1.2.2.2, .ref 2, .ref 7]]⟩])) [0,1,1,1,1,1,63,63,1,0,0,0,0]
 refine z7 ?_
 refine zz (fun _ d=>ac (dBs 11 (e:=Qy) Y8 (hab:=by exact ⟨_,_,_,_,rfl,⟨[dI (-1)],[dB false],_,_,_,_,rfl,rfl,⟨rfl,rfl⟩,⟨rfl,rfl⟩,rfl⟩,⟨rfl,rfl⟩,rfl⟩)) rfl) ?_
 refine zz (fun _ d=>ac (dA 12 Qag) rfl) ?_
 refine z3 ?_
 refine zz (fun _ d=>ac (QO (d.v rfl) (d.en 0 rfl) (d.w rfl) (by simp only[QQ,Xz,aY,br]; rw[(d.en 12 rfl)]; rfl) Qry rfl) rfl) ?_
 exact zN
 refine w6 ?_
 refine lc (Vk (Qa rfl) (Qp rfl) rfl (by first | omega | (simp only[ae,aj,aA]; omega))) ?_
 refine w3 ?_
 have H:(((b.2.2++([word])).length:Int) - 1:Int)=(trI b word):=by
  (unfold trI; rw[QaH (Ym a (by omega)),ae]; simp)
 exact fi_ [(3,10),(4,12),(5,7)] C ⟨(((congrArg (fun z_=>some (Ent.box 341 [dI z_, .ref 10, .ref 1, .ref 12,dS b.1.2.2.2, .ref 2, .ref 7])) (show (b.1.1.1:Int)=(ZA b word).1.1.1 by (rw[Yk (Ym a (by omega))]; done)))).trans (congrArg (fun z_=>some (Ent.box 341 [dI ((ZA b word).1.1.1), .ref 10, .ref 1, .ref 12,dS z_, .ref 2, .ref 7])) (show (b.1.2.2.2:ByteArray)=(ZA b word).1.2.2.2 by (rw[Yk (Ym a (by omega))]; done)))),(Qe (by (rw[Yk (Ym a (by omega))]; done))),(Qe (by (rw[Yk (Ym a (by omega))]; done))),(Qe (by (rw[Yk (Ym a (by omega)),← Qwx n r ‹_›]; done))),(Qe (by (rw[Yk (Ym a (by omega))]; done))),(Qe (by (rw[Yk (Ym a (by omega))]; done))),trivial⟩ (h0:=by rw[H] <;> rfl)
 obtain ⟨cz,u⟩:=gs nm (((nm.size:Int) - 1).toNat)
 have E:=u
 apply dZ (i7 42 _ _ _ _ _ _ _ (io 49 (lI (nm.size:Int)) :: io 50 (lI ((nm.size:Int) - 1)) :: io 51 (lf (dS (nm.extract 0 ((nm.size:Int) - 1).toNat))) :: io 52 (lI (Zl (fun x:QD=>decide (x.1=(nm.extract 0 ((nm.size:Int) - 1).toNat))) b.1.2.1)) :: i2 53 _ _ [io 55 (lI (nm.size:Int)),io 56 (lI ((nm.size:Int) - 1)),io 57 _,io 58 (lB (decide (cz=43))),io 59 (ag [dI (Zl (fun x:QD=>decide (x.1=(nm.extract 0 ((nm.size:Int) - 1).toNat))) b.1.2.1),dB (decide (cz=43))]),⟨none,lf (.val undef),[bx 8 86 [dI (Zl (fun x:QD=>decide (x.1=(nm.extract 0 ((nm.size:Int) - 1).toNat))) b.1.2.1),dB (decide (cz=43))]]⟩])) [0,0,0,0,0,31,63,63,63,31,0,2047,4095,4095,4095,2047,2047,0,0]
 refine z7 ?_
 refine zz (fun _ d=>ac (ZJ (d.v rfl) rfl Zf) rfl)<|zz (fun _ d=>ac (Vk (d.v rfl) (Qp rfl) rfl (by first | omega | (simp only[ae,aj,aA]; omega))) rfl)<|zz (fun _ d=>ac (show Does _ _ _ _ (St.put _ 51 (lf (dS (nm.extract 0 ((nm.size:Int) - 1).toNat)))) from Zj (l:=none) (h:=(some ((nm.size:Int) - 1))) (d.v rfl) (by exact trivial) (by exact (d.v rfl)) Zf rfl (by first | omega | (simp only[av,ao]; omega)) (by first | omega | (simp only[av,ao]; omega)) (by first | omega | (simp only[av,ao]; omega))) rfl) ?_
 refine zz (fun _ d=>ac (dB_ (WT b.1.2.1 (nm.extract 0 ((nm.size:Int) - 1).toNat)) Qaf) rfl) ?_
 refine z2 ?_
 refine zz (fun _ d=>ac (ZJ (d.v rfl) rfl Zf) rfl)<|zz (fun _ d=>ac (Vk (d.v rfl) (Qp rfl) rfl (by first | omega | (simp only[ae,aj,aA]; omega))) rfl) ?_
 refine z_ ?_
 refine zz (fun _ d=>ac (Qr (d.v rfl) (Qw 43 rfl) rfl) rfl)<|zz (fun _ d=>ac (Qg Ws ⟨_,_,rfl,(d.w rfl),⟨_,_,rfl,(d.w rfl),rfl⟩⟩ (au.1 rfl) rfl rfl) rfl) ?_
 exact y1
 refine w8 ?_
 refine lc (Qg QdG rfl (au.1 rfl) rfl rfl) ?_
 refine lc (dBs 13 (e:=Zs) KN (hab:=by exact ⟨_,_,_,_,rfl,⟨[.val (.slice none 0 0)],[.val (.slice none 0 0)],_,_,_,_,rfl,rfl,(.inr ⟨rfl,rfl,rfl⟩),(.inr ⟨rfl,rfl,rfl⟩),rfl⟩,⟨rfl,rfl⟩,rfl⟩)) ?_
 refine lc (dA 14 QdK) ?_
 refine w6 ?_
 apply dW (i7 74 _ _ _ _ _ _ _ (⟨some 81,lR 15,[ar 15 86 Qy ([(Zl (fun x:QD=>decide (x.1=(nm.extract 0 ((nm.size:Int) - 1).toNat))) b.1.2.1,decide (cz=43))])]⟩ :: ⟨some 82,lR 16,[ar 16 86 Qy (b.1.2.2.1++([(Zl (fun x:QD=>decide (x.1=(nm.extract 0 ((nm.size:Int) - 1).toNat))) b.1.2.1,decide (cz=43))])),(4,none),(15,none)]⟩ :: i3 83 _ _ _ [⟨none,lf (.val undef),[bx 0 341 [dI b.1.1.1, .ref 14, .ref 1, .ref 16,dS b.1.2.2.2, .ref 2, .ref 7]]⟩])) [0,1,1,1,1,1,63,63,1,0,0,0,0]
 refine z7 ?_
 refine zz (fun _ d=>ac (dBs 15 (e:=Qy) Y8 (hab:=by exact ⟨_,_,_,_,rfl,⟨[dI (Zl (fun x:QD=>decide (x.1=(nm.extract 0 ((nm.size:Int) - 1).toNat))) b.1.2.1)],[dB (decide (cz=43))],_,_,_,_,rfl,rfl,⟨rfl,rfl⟩,⟨rfl,rfl⟩,rfl⟩,⟨rfl,rfl⟩,rfl⟩)) rfl) ?_
 refine zz (fun _ d=>ac (dA 16 Qag) rfl) ?_
 refine z3 ?_
 refine zz (fun _ d=>ac (QO (d.v rfl) (d.en 0 rfl) (d.w rfl) (by simp only[QQ,Xz,aY,br]; rw[(d.en 16 rfl)]; rfl) Qry rfl) rfl) ?_
 exact zN
 refine w6 ?_
 refine lc (Vk (Qa rfl) (Qp rfl) rfl (by first | omega | (simp only[ae,aj,aA]; omega))) ?_
 refine w3 ?_
 have A:(((b.2.2++([word])).length:Int) - 1:Int)=(trI b word):=by
  (unfold trI; rw[QaH (Ym a (by omega)),ae]; simp)
 exact fi_ [(3,14),(4,16),(5,7)] C ⟨(((congrArg (fun z_=>some (Ent.box 341 [dI z_, .ref 14, .ref 1, .ref 16,dS b.1.2.2.2, .ref 2, .ref 7])) (show (b.1.1.1:Int)=(ZA b word).1.1.1 by (rw[Yk (Ym a (by omega))]; done)))).trans (congrArg (fun z_=>some (Ent.box 341 [dI ((ZA b word).1.1.1), .ref 14, .ref 1, .ref 16,dS z_, .ref 2, .ref 7])) (show (b.1.2.2.2:ByteArray)=(ZA b word).1.2.2.2 by (rw[Yk (Ym a (by omega))]; done)))),(Qe (by (rw[Yk (Ym a (by omega))]; done))),(Qe (by (rw[Yk (Ym a (by omega))]; done))),(Qe (by (rw[Yk (Ym a (by omega)),← Qw7 n r ‹_› E]; done))),(Qe (by (rw[Yk (Ym a (by omega))]; done))),(Qe (by (rw[Yk (Ym a (by omega))]; done))),trivial⟩ (h0:=by rw[A] <;> rfl)
 have q:=ab o
 refine w7 ?_
 obtain ⟨x,j⟩:=gx b.2.2 k
 have f:=j
 refine w9 ?_
 cases g:(decide (x=word))
 have m:=aa g
 refine w4 ?_
 refine lc (XQ (Qa rfl) (Qp rfl) rfl (by first | omega | (simp only[ae,aj,aA]; omega))) ?_
 refine w_ ?_
 refine Qb ?_
 refine lK_ (a.step j (aH ‹_›)) ?_
 exact wo []
 have m:=ab g
 refine w6 ?_
 have B:((k:Int):Int)=(trI b word):=by
  exact Qsr a f ‹_›
 exact fi_ [] C ⟨(((congrArg (fun z_=>some (Ent.box 341 [dI z_, .ref 3, .ref 1, .ref 4,dS b.1.2.2.2, .ref 2, .ref 5])) (show (b.1.1.1:Int)=(ZA b word).1.1.1 by (rw[VD (Xf f ‹_›)]; done)))).trans (congrArg (fun z_=>some (Ent.box 341 [dI ((ZA b word).1.1.1), .ref 3, .ref 1, .ref 4,dS z_, .ref 2, .ref 5])) (show (b.1.2.2.2:ByteArray)=(ZA b word).1.2.2.2 by (rw[VD (Xf f ‹_›)]; done)))),(Qe (by (rw[VD (Xf f ‹_›)]; done))),(Qe (by (rw[VD (Xf f ‹_›)]; done))),(Qe (by (rw[VD (Xf f ‹_›)]; done))),(Qe (by (rw[VD (Xf f ‹_›)]; done))),(Qe (by (rw[VD (Xf f ‹_›)]; done))),trivial⟩ (h0:=by rw[B] <;> rfl)
end Go.Proofs.YtgpdhgadmjfokaaGreat
namespace Go.Proofs.YtgpdhgadmjfokaaGreat
open Go.RowKit
set_option maxRecDepth 100000
set_option maxHeartbeats 4000000
def unN (a b:Xr):Xr:=(a.1+b.1,a.2++b.2.map (Qme a.1))
def unL (n:Nat)(l:Zb):Zb:=if 0≤l.1 then (l.1+(n:Int),l.2) else l
def unS (a b:Q5):Q5:=(unN a.1 b.1,a.2.1++b.2.1,a.2.2.1++b.2.2.1.map (unL a.2.1.length),a.2.2.2++b.2.2.2)
theorem Qny {l:List Int}{hi:Int}(h:JL l hi):∀x∈l,0≤x∧x≤hi:=fun x b=>by
 obtain ⟨k,a⟩:=aM.1 b
 exact (h k (ai.1 a).1 x a).1
theorem Qod:∀{l:List Int} {hi:Int},JL l hi→ -1≤hi→(l.length:Int)≤hi+1:=fun {l hi} h g=>by
 have b:∀(k:Nat) x,l[k]? =some x→(k:Int)≤x:=fun k=>by
  induction k with
  | zero=>intro x a; exact (h 0 (ai.1 a).1 x a).1.1
  | succ k f=>
   intro x a
   have c:=(ai.1 a).1
   obtain ⟨y,d⟩:∃y,l[k]? =some y:=⟨_,ak (by omega)⟩
   have e:=f y d
   have i:=(h (k+1) c x a).2 k y rfl d
   omega
 by_cases j:l.length=0
 ·omega
 ·obtain ⟨x,a⟩:∃x,l[l.length - 1]? =some x:=⟨_,ak (by omega)⟩
  have c:=b _ x a
  have e:=(h _ (ai.1 a).1 x a).1.2
  omega
theorem Vt {n:Xr}(h:XR n):(1≤n.1∧n.1≤30)∧n.2.length≤24∧∀t∈n.2,(t.1.length≤30∧t.2.length≤30)∧(∀x∈t.1,0≤x∧x≤29)∧∀x∈t.2,0≤x∧x≤29:=by
 obtain ⟨d,e,f⟩:=h
 refine ⟨d,e,fun t g=> ?_⟩
 obtain ⟨_,b,c⟩:=f t g
 have i:=Qod b (by omega)
 have j:=Qod c (by omega)
 exact ⟨⟨by omega,by omega⟩,fun x a=>by have:=Qny b x a; omega,fun x a=>by have:=Qny c x a; omega⟩
theorem Je (l:List Int)(d:Int)(p:l.length≤100000)(hb:∀x∈l, -9223372036854775808≤x+d∧x+d≤9223372036854775807):FC Tryz.prog 465 [(false,[.dat QA l]),(false,[dI d])] [] 0 (YJ 3 .int (l.map fun x=>x+d)):=by
 refine Qt Tryz.func465 rfl rfl Tryz.ntmps465 fun n i m f o h g=> ?_
 refine acI 1 fun _=> ?_
 refine w9 ?_
 refine alL 8 fun _=> ?_
 refine w4 ?_
 refine AC.wk (Wk.nilS 0 5 3 .int rfl (Fresh.of rfl) (nlr rfl)) ?_
 refine lp0 l.length (fun k=>⟨[(1,lI d),(4,lf (.val (.slice none 0 0))),(5,lR 1),(8,lf (.dat QA l)),(9,lI (l.length:Int)),(10,lI (k:Int))],[ar 1 3 .int ((l.take k).map fun x=>x+d)]⟩) ?_ fun k _=> ?_
 exact wp [(1,0)] ⟨(Qe (by simp)),trivial⟩
 refine w4 ?_
 cases a:(decide ((k:Int) < (l.length:Int)))
 have b:=aa a
 refine w7 ?_
 refine Qd<|fo_ i ?_
 ·(rw[QH (by omega)]; done)
 have b:=ab a
 refine w5 ?_
 obtain ⟨q,c⟩:=gx l k
 have j:=hb _ (ah c)
 refine w2 ?_
 refine alI 13 fun _=> ?_
 refine w7 ?_
 refine lc (dBs 2 (e:= .int) Yj) ?_
 refine lc (dA 3 Y4) ?_
 refine w_ ?_
 refine Qb ?_
 refine w4 ?_
 refine Qb ?_
 refine l0_ ?_
 exact wp [(1,3)] ⟨(Qe (by rw[QG c]; simp)),trivial⟩
theorem Ua (n:Xr)[Decidable (XR n)]:FC Tryz.prog 356 [(true,leaves Qcv n)] [] 0 (Q7 (lf (dB (decide (XR n))))):=QbW fun d w e h=>by
 obtain ⟨c,rfl,a⟩:=h.agg1
 have b:=a.len
 match c,b with
 | [a0,a1],_=>exact (Qfl a0 a1 n w a).mono fun _ _ h=>UY h
theorem Qyh {n:Nat}{l:Zb}(h:Qg3 n l): -1≤l.1∧l.1≤(n:Int):=by
 unfold Qg3 at h; omega
theorem Qa8 (a:QpC)(b:QpC)[∀s,Decidable (StgOk s)][∀s,Decidable (XR s)](D:Ty.tot Qcv a≤2000000):FC Tryz.prog 430 [(true,[dI a.1, .dat X7 a.2]),(true,[dI b.1, .dat X7 b.2])] [] 0 (Ex (fun x:Xr×Bool=>x.2=true→x.1=unN a b) (fun x:Xr×Bool=>PV.tup [(true,[dI x.1.1, .ref 0]),(false,[dB x.2])]) (fun x:Xr×Bool=>[ar 0 245 Zs x.1.2])):=by
 refine Qt Tryz.func430 rfl rfl Tryz.ntmps430 fun F y E A G C B=> ?_
 refine acG 0 0 fun _=> ?_
 refine acG 1 0 fun _=> ?_
 refine w_ ?_
 refine xbx 0 ?_
 refine xbx 1 ?_
 refine lc (xal 2 QrA QcI) ?_
 refine w5 ?_
 refine lc (dK (Ua a) H8) ?_
 refine w2 ?_
 cases i:(decide (XR a))
 have j:=aa i
 refine w7 ?_
 refine lc (Qg Qhk rfl (au.1 rfl) rfl rfl) ?_
 refine w3 ?_
 refine AC.wk (Qn 3 (p:=2) (off:=1) 245 Zs rfl rfl (Fresh.of rfl) (nlr rfl))<|Qd ?_
 subst y
 refine Zu (x:=((0,[]),false)) [(0,3)] ?_ (W8 rfl (Rs.cell rfl rfl Qit rfl) (UJ rfl)) rfl ⟨rfl,trivial⟩ rfl rfl
 exact fun h=>absurd h (by decide)
 have j:=ab i
 refine w_ ?_
 refine lgy rfl rfl (dK (Ua b) H8) ?_
 refine w3 ?_
 cases l:(decide (XR b))
 have m:=aa l
 refine w2 ?_
 refine lc (Qg Qhk rfl (au.1 rfl) rfl rfl) ?_
 refine w3 ?_
 refine AC.wk (Qn 4 (p:=2) (off:=1) 245 Zs rfl rfl (Fresh.of rfl) (nlr rfl))<|Qd ?_
 subst y
 refine Zu (x:=((0,[]),false)) [(0,4)] ?_ (W8 rfl (Rs.cell rfl rfl Qit rfl) (UJ rfl)) rfl ⟨rfl,trivial⟩ rfl rfl
 exact fun h=>absurd h (by decide)
 have m:=ab l
 refine w4 ?_
 refine lc (dG 5 (QeR a D) QlI) ?_
 refine lc (xal 6 QrA QcI) ?_
 refine w7 ?_
 refine lc (XQ (Qa rfl) (Qa rfl) rfl (by first | omega | (have t:=(Vt ‹XR a›).1; have u:=(Vt ‹XR b›).1; omega))) ?_
 refine w7 ?_
 refine alL 27 fun _=> ?_
 refine w4 ?_
 refine lp0 b.2.length (fun k=>⟨[(2,lP 0 0),(4,lP 2 0),(5,lB false),(6,lP 6 0),(27,lf (.dat X7 b.2)),(28,lI (b.2.length:Int)),(29,lI (k:Int))],[bx 0 59 [dI a.1, .dat X7 a.2],bx 2 59 [dI 0, .val (.slice none 0 0)],bx 6 59 [dI (a.1+b.1), .ref 7],ar 7 245 Zs (a.2++(b.2.take k).map (Qme a.1))]⟩) ?_ fun k _=> ?_
 exact wp [(7,5)] ⟨rfl,rfl,rfl,(Qe (by simp)),trivial⟩
 refine w4 ?_
 cases n:(decide ((k:Int) < (b.2.length:Int)))
 have o:=aa n
 refine w6 ?_
 refine lc (YF (Ua (a.1+b.1,a.2++(b.2.take k).map (Qme a.1))) H8 ⟨_,_,rfl,(XI (Qo rfl) ⟨_,_,rfl, .inl rfl,⟨_,_,rfl, .inr ⟨_,_,_,_,rfl,rfl,rfl⟩,rfl⟩⟩),rfl⟩ rfl rfl rfl) ?_
 refine w2 ?_
 cases q:(decide (XR (a.1+b.1,a.2++(b.2.take k).map (Qme a.1))))
 have r:=aa q
 refine w2 ?_
 refine lc (Qg Qhk rfl (au.1 rfl) rfl rfl) ?_
 refine w3 ?_
 refine AC.wk (Qn 8 (p:=2) (off:=1) 245 Zs rfl rfl (Fresh.of rfl) (nlr rfl))<|Qd ?_
 subst y
 refine Zu (x:=((0,[]),false)) [(0,8)] ?_ (W8 rfl (Rs.cell rfl rfl Qit rfl) (UJ rfl)) rfl ⟨rfl,trivial⟩ rfl rfl
 exact fun h=>absurd h (by decide)
 have r:=ab q
 refine w8 ?_
 subst y
 refine Zu (x:=((a.1+b.1,a.2++(b.2.take k).map (Qme a.1)),true)) [(0,7)] ?_ (W8 rfl (Rs.cell rfl rfl Qit rfl) (UJ rfl)) rfl ⟨rfl,trivial⟩ rfl rfl
 (intro _; rw[QH (by omega)]; rfl)
 have o:=ab n
 refine w5 ?_
 obtain ⟨f,d⟩:=gx b.2 k
 refine w2 ?_
 refine lc (xal 9 Zs KN) ?_
 refine w2 ?_
 apply dV (i6 33 _ _ _ _ _ _ [⟨some 39,lR 10,[ar 10 3 .int (f.1.map fun x=>x+a.1)]⟩,io 40 (lP 9 1),io 41 (lf (.dat QA f.2)),io 42 (lP 0 0),io 43 (lI a.1),⟨some 44,lR 11,[ar 11 3 .int (f.2.map fun x=>x+a.1)]⟩,io 45 (ag [.ref 10, .ref 11]),⟨some 46,lR 12,[ar 12 245 Zs ([(f.1.map fun x=>x+a.1,f.2.map fun x=>x+a.1)]),(10,none),(11,none)]⟩,⟨some 47,lR 13,[ar 13 245 Zs ((a.2++(b.2.take k).map (Qme a.1))++([(f.1.map fun x=>x+a.1,f.2.map fun x=>x+a.1)])),(7,none),(12,none)]⟩,io 48 _,⟨none,lf (.val undef),[bx 6 59 [dI (a.1+b.1), .ref 13]]⟩]) [0,0,3,3,15,15,3,127,127,511,511,3,3,3,0,0,0]
 refine z6 ?_
 refine zz (fun _ c=>ac (dO 10 (Je f.1 a.1 (by have:=((Vt ‹XR b›).2.2 _ (ah d)).1; omega) (fun z g=>by have t:=((Vt ‹XR b›).2.2 _ (ah d)).2.1 z g; have u:=(Vt ‹XR a›).1; omega)) Qfu) rfl) ?_
 refine z4 ?_
 refine zz (fun _ c=>ac (dO 11 (Je f.2 a.1 (by have:=((Vt ‹XR b›).2.2 _ (ah d)).1; omega) (fun z g=>by have t:=((Vt ‹XR b›).2.2 _ (ah d)).2.2 z g; have u:=(Vt ‹XR a›).1; omega)) Qfu) rfl) ?_
 refine zz (fun _ c=>ac (Qg QdG ⟨_,_,rfl,(c.w rfl),⟨_,_,rfl,(c.w rfl),rfl⟩⟩ (au.1 (by simp only[QQ,Xz,aY,br]; rw[(c.en 10 rfl),(c.en 11 rfl)]; rfl)) rfl rfl) rfl)<|zz (fun _ c=>ac (Vp 12 (e:=Zs) QcH Hw KN rfl ⟨_,_,rfl,(c.w rfl),rfl⟩ (au.1 (by simp only[QQ,Xz,aY,br]; rw[(c.en 10 rfl),(c.en 11 rfl)]; rfl)) ⟨_,_,_,_,rfl,⟨[.ref 10],[.ref 11],_,_,_,_,rfl,rfl,(.inl ⟨_,rfl,(c.en 10 rfl),rfl⟩),(.inl ⟨_,rfl,(c.en 11 rfl),rfl⟩),rfl⟩,⟨rfl,rfl⟩,rfl⟩ (by decide) rfl rfl (c.fr 12 rfl) (nlr rfl)) rfl) ?_
 refine zz (fun _ c=>ac (dA 13 QdK (hb:=by (have t:=(Vt ‹XR a›).2.1; have u:=(Vt ‹XR b›).2.1; simp only[ae,aC,ap,aj,aA]; omega))) rfl) ?_
 refine z_ ?_
 refine zz (fun _ c=>ac (QO (c.v rfl) (c.en 6 rfl) (c.w rfl) (by simp only[QQ,Xz,aY,br]; rw[(c.en 13 rfl)]; rfl) Qq5 rfl) rfl) ?_
 exact zN
 refine w2 ?_
 refine lc (XQ (Qa rfl) (Qp rfl) rfl (by first | omega | (have t:=(Vt ‹XR a›).1; have u:=(Vt ‹XR b›).1; omega))) ?_
 refine w_ ?_
 refine Qb ?_
 refine l0_ ?_
 exact wp [(7,13)] ⟨rfl,rfl,rfl,(Qe (by rw[QG d]; simp[Qme])),trivial⟩
theorem QaQ (a:QlQ)(b:QlQ)[∀s,Decidable (StgOk s)][∀s,Decidable (XR s)](B:Ty.tot Qdi a≤2000000)(z:Ty.tot Qdi b≤2000000):FC Tryz.prog 362 [(true,[dI a.1.1, .dat X7 a.1.2, .dat Ql a.2.1, .dat YQ a.2.2.1,dS a.2.2.2]),(true,[dI b.1.1, .dat X7 b.1.2, .dat Ql b.2.1, .dat YQ b.2.2.1,dS b.2.2.2])] [] 0 (Ex (fun x:Q5×Bool=>x.2=true→x.1=unS a b) (fun x:Q5×Bool=>PV.tup [(true,[dI x.1.1.1, .ref 0, .ref 1, .ref 2,dS x.1.2.2.2]),(false,[dB x.2])]) (fun x:Q5×Bool=>[ar 0 245 Zs x.1.1.2,ar 1 44 Qz x.1.2.1,ar 2 86 Qy x.1.2.2.1])):=by
 obtain ⟨A,L,M⟩:=Qgc B
 obtain ⟨I,J,K⟩:=Qgc z
 refine Qt Tryz.func362 rfl rfl Tryz.ntmps362 fun O q N C P E D=> ?_
 refine acG 0 0 fun _=> ?_
 refine acG 1 0 fun _=> ?_
 refine w_ ?_
 refine xbx 0 ?_
 refine xbx 1 ?_
 refine lc (xal 2 Qqe H9) ?_
 refine w7 ?_
 refine Wv 3 [] (Qa8 a.1 b.1 A) Qld e2_ trivial rfl (fun _=>rfl) (fun _=>⟨(Fresh.of rfl),trivial⟩) (nlr rfl) fun g H=> ?_
 refine w3 ?_
 refine lc (xal 4 QrA QcI) ?_
 refine w8 ?_
 cases F:(g.2)
 refine w12 ?_
 refine lc (Qg Qfo rfl (au.1 rfl) rfl rfl) ?_
 refine w3 ?_
 refine AC.wk (Qn 5 (p:=2) (off:=1) 245 Zs rfl rfl (Fresh.of rfl) (nlr rfl))<|AC.wk (Qn 6 (p:=2) (off:=2) 44 Qz rfl rfl (Fresh.of rfl) (nlr rfl))<|AC.wk (Qn 7 (p:=2) (off:=3) 86 Qy rfl rfl (Fresh.of rfl) (nlr rfl))<|Qd ?_
 subst q
 refine Zu (x:=(((0,[]),([],([],ByteArray.empty))),false)) [(0,5),(1,6),(2,7)] ?_ (W8 rfl (Rs.cell rfl rfl YK rfl) (UJ rfl)) rfl ⟨rfl,rfl,rfl,trivial⟩ rfl rfl
 exact fun h=>absurd h (by decide)
 refine w_ ?_
 refine lgy rfl rfl (dK (Ww a) Ky) ?_
 refine w3 ?_
 cases r:(decide (StgOk a))
 have t:=aa r
 refine w7 ?_
 refine lc (Qg Qfo rfl (au.1 rfl) rfl rfl) ?_
 refine w3 ?_
 refine AC.wk (Qn 8 (p:=2) (off:=1) 245 Zs rfl rfl (Fresh.of rfl) (nlr rfl))<|AC.wk (Qn 9 (p:=2) (off:=2) 44 Qz rfl rfl (Fresh.of rfl) (nlr rfl))<|AC.wk (Qn 10 (p:=2) (off:=3) 86 Qy rfl rfl (Fresh.of rfl) (nlr rfl))<|Qd ?_
 subst q
 refine Zu (x:=(((0,[]),([],([],ByteArray.empty))),false)) [(0,8),(1,9),(2,10)] ?_ (W8 rfl (Rs.cell rfl rfl YK rfl) (UJ rfl)) rfl ⟨rfl,rfl,rfl,trivial⟩ rfl rfl
 exact fun h=>absurd h (by decide)
 have t:=ab r
 refine w_ ?_
 refine lgy rfl rfl (dK (Ww b) Ky) ?_
 refine w3 ?_
 cases u:(decide (StgOk b))
 have y:=aa u
 refine w2 ?_
 refine lc (Qg Qfo rfl (au.1 rfl) rfl rfl) ?_
 refine w3 ?_
 refine AC.wk (Qn 11 (p:=2) (off:=1) 245 Zs rfl rfl (Fresh.of rfl) (nlr rfl))<|AC.wk (Qn 12 (p:=2) (off:=2) 44 Qz rfl rfl (Fresh.of rfl) (nlr rfl))<|AC.wk (Qn 13 (p:=2) (off:=3) 86 Qy rfl rfl (Fresh.of rfl) (nlr rfl))<|Qd ?_
 subst q
 refine Zu (x:=(((0,[]),([],([],ByteArray.empty))),false)) [(0,11),(1,12),(2,13)] ?_ (W8 rfl (Rs.cell rfl rfl YK rfl) (UJ rfl)) rfl ⟨rfl,rfl,rfl,trivial⟩ rfl rfl
 exact fun h=>absurd h (by decide)
 have y:=ab u
 refine w2 ?_
 apply dW [io 32 _,⟨some 33,lR 14,[ar 14 44 Qz ([])]⟩,io 34 (lP 0 2),io 35 (lf (.dat Ql a.2.1)),⟨some 36,lR 15,[ar 15 44 Qz (([])++a.2.1),(14,none)]⟩,io 37 (lP 1 2),io 38 (lf (.dat Ql b.2.1)),⟨some 39,lR 16,[ar 16 44 Qz ((([])++a.2.1)++b.2.1),(15,none)]⟩,⟨some 40,lR 17,[ar 17 86 Qy ([])]⟩,io 41 (lP 0 3),io 42 (lf (.dat YQ a.2.2.1)),⟨some 43,lR 18,[ar 18 86 Qy (([])++a.2.2.1),(17,none)]⟩,io 44 (lP 0 4),io 45 (lf (dS a.2.2.2)),io 46 (lP 1 4),io 47 (lf (dS b.2.2.2)),io 48 (lf (dS (a.2.2.2++b.2.2.2))),io 49 (ag [dI g.1.1, .ref 3, .ref 16, .ref 18,dS (a.2.2.2++b.2.2.2)]),⟨some 8,lP 19 0,[bx 19 62 [dI 0, .val (.slice none 0 0), .val (.slice none 0 0), .val (.slice none 0 0),dS ByteArray.empty]]⟩,⟨none,lf (.val undef),[bx 19 62 [dI g.1.1, .ref 3, .ref 16, .ref 18,dS (a.2.2.2++b.2.2.2)]]⟩] [0,1,3,3,1,31,31,1,255,511,511,1,4095,4095,16383,16383,4095,0,262143,0]
 refine z_ ?_
 refine zz (fun _ c=>ac (dBs 14 (e:=Qz) WA) rfl) ?_
 refine z2 ?_
 refine zz (fun _ c=>ac (QU 15 (c.v rfl) (c.en 14 rfl) (Evl.rep (c.v rfl)) rfl JT UG (by (simp only[ae,aC,ap,aj,aA]; omega)) rfl (c.fr 15 rfl) (nlr rfl)) rfl) ?_
 refine z2 ?_
 refine zz (fun _ c=>ac (QU 16 (c.v rfl) (c.en 15 rfl) (Evl.rep (c.v rfl)) rfl JT UG (by (simp only[ae,aC,ap,aj,aA]; omega)) rfl (c.fr 16 rfl) (nlr rfl)) rfl) ?_
 refine zz (fun _ c=>ac (dBs 17 (e:=Qy) Y8) rfl) ?_
 refine z2 ?_
 refine zz (fun _ c=>ac (QU 18 (c.v rfl) (c.en 17 rfl) (Evl.rep (c.v rfl)) rfl Qxe Qag (by (simp only[ae,aC,ap,aj,aA]; omega)) rfl (c.fr 18 rfl) (nlr rfl)) rfl) ?_
 refine z4 ?_
 refine zz (fun _ c=>ac (Zn (c.v rfl) (c.v rfl) rfl (by (have Q:=Qgq B; have R:=Qgq z; omega))) rfl)<|zz (fun _ c=>ac (Qg Qfo ⟨_,_,rfl,(c.w rfl),⟨_,_,rfl,(c.w rfl),⟨_,_,rfl,(c.w rfl),⟨_,_,rfl,(c.w rfl),rfl⟩⟩⟩⟩ (au.1 (by show ((QQ _ [dI g.1.1, .ref 3]&&(QQ _ [.ref 16]&&(QQ _ [.ref 18]&&(QQ _ [dS (a.2.2.2++b.2.2.2)]&&true)))))=true; simp only[QQ,Xz,aY,br]; rw[(c.en 3 rfl),(c.en 16 rfl),(c.en 18 rfl)]; rfl)) rfl rfl) rfl)<|zz (fun _ c=>ac (Xq 19 Qqe H9 rfl rfl (c.fr 19 rfl) (nlr rfl)) rfl)<|zz (fun _ c=>ac (QO (c.v rfl) (c.en 19 rfl) (c.w rfl) (by show QQ _ [dI g.1.1, .ref 3, .ref 16, .ref 18,dS (a.2.2.2++b.2.2.2)]=true; simp only[QQ,Xz,aY,br]; rw[(c.en 3 rfl),(c.en 16 rfl),(c.en 18 rfl)]; rfl) YK rfl) rfl) ?_
 exact zN
 refine w4 ?_
 refine alL 51 fun _=> ?_
 refine w4 ?_
 refine lp0 b.2.2.1.length (fun k=>⟨[(2,lP 0 0),(4,lP 2 0),(5,lB false),(8,lP 19 0),(51,lf (.dat YQ b.2.2.1)),(52,lI (b.2.2.1.length:Int)),(53,lI (k:Int))],[bx 0 62 [dI a.1.1, .dat X7 a.1.2, .dat Ql a.2.1, .dat YQ a.2.2.1,dS a.2.2.2],bx 2 62 [dI 0, .val (.slice none 0 0), .val (.slice none 0 0), .val (.slice none 0 0),dS ByteArray.empty],ar 3 245 Zs g.1.2,ar 16 44 Qz ((([])++a.2.1)++b.2.1),bx 19 62 [dI g.1.1, .ref 3, .ref 16, .ref 20,dS (a.2.2.2++b.2.2.2)],ar 20 86 Qy (a.2.2.1++(b.2.2.1.take k).map (unL a.2.1.length))]⟩) ?_ fun k _=> ?_
 exact wp [(20,18)] ⟨rfl,rfl,rfl,rfl,rfl,(Qe (by simp)),trivial⟩
 refine w4 ?_
 cases i:(decide ((k:Int) < (b.2.2.1.length:Int)))
 have m:=aa i
 refine w6 ?_
 refine lc (YF (Ww (g.1,(([])++a.2.1)++b.2.1,a.2.2.1++(b.2.2.1.take k).map (unL a.2.1.length),a.2.2.2++b.2.2.2)) Ky ⟨_,_,rfl,(XI (Qo rfl) ⟨_,_,rfl, .inl rfl,⟨_,_,rfl, .inr ⟨_,_,_,_,rfl,rfl,rfl⟩,⟨_,_,rfl, .inr ⟨_,_,_,_,rfl,rfl,rfl⟩,⟨_,_,rfl, .inr ⟨_,_,_,_,rfl,rfl,rfl⟩,⟨_,_,rfl, .inl rfl,rfl⟩⟩⟩⟩⟩),rfl⟩ rfl rfl rfl) ?_
 refine w2 ?_
 cases j:(decide (StgOk (g.1,(([])++a.2.1)++b.2.1,a.2.2.1++(b.2.2.1.take k).map (unL a.2.1.length),a.2.2.2++b.2.2.2)))
 have n:=aa j
 refine w2 ?_
 refine lc (Qg Qfo rfl (au.1 rfl) rfl rfl) ?_
 refine w3 ?_
 refine AC.wk (Qn 21 (p:=2) (off:=1) 245 Zs rfl rfl (Fresh.of rfl) (nlr rfl))<|AC.wk (Qn 22 (p:=2) (off:=2) 44 Qz rfl rfl (Fresh.of rfl) (nlr rfl))<|AC.wk (Qn 23 (p:=2) (off:=3) 86 Qy rfl rfl (Fresh.of rfl) (nlr rfl))<|Qd ?_
 subst q
 refine Zu (x:=(((0,[]),([],([],ByteArray.empty))),false)) [(0,21),(1,22),(2,23)] ?_ (W8 rfl (Rs.cell rfl rfl YK rfl) (UJ rfl)) rfl ⟨rfl,rfl,rfl,trivial⟩ rfl rfl
 exact fun h=>absurd h (by decide)
 have n:=ab j
 refine w8 ?_
 subst q
 refine Zu (x:=(((g.1.1,g.1.2),((([])++a.2.1)++b.2.1,(a.2.2.1++(b.2.2.1.take k).map (unL a.2.1.length),a.2.2.2++b.2.2.2))),true)) [(0,3),(1,16),(2,20)] ?_ (W8 rfl (Rs.cell rfl rfl YK rfl) (UJ rfl)) rfl ⟨rfl,rfl,rfl,trivial⟩ rfl rfl
 ·(intro _; rw[QH (by omega)]; simp_all [unS]; done)
 have m:=ab i
 refine w5 ?_
 obtain ⟨f,d⟩:=gx b.2.2.1 k
 have G:=Qyh (StgOk.labs ‹StgOk b› _ (ah d))
 refine w2 ?_
 refine lc (xal 24 Qy Y8) ?_
 refine w6 ?_
 refine alI 58 fun _=> ?_
 refine w2 ?_
 cases l:(decide (0≤f.1))
 have o:=aa l
 refine w6 ?_
 refine lc (dBs 25 (e:=Qy) Y8 (hab:=by exact ⟨_,_,_,_,rfl,⟨[dI f.1],[dB f.2],_,_,_,_,rfl,rfl,⟨rfl,rfl⟩,⟨rfl,rfl⟩,rfl⟩,⟨rfl,rfl⟩,rfl⟩)) ?_
 refine lc (dA 26 Qag (hb:=by (simp only[ae,aC,ap,aj,aA]; omega))) ?_
 refine w2 ?_
 refine Qb ?_
 refine w4 ?_
 refine Qb ?_
 refine l0_ ?_
 exact wp [(20,26)] ⟨rfl,rfl,rfl,rfl,rfl,(Qe (by rw[QG d]; simp[unL, *])),trivial⟩
 have o:=ab l
 refine w6 ?_
 refine alL 63 fun _=> ?_
 refine w9 ?_
 refine lc (dBs 27 (e:=Qy) Y8 (hab:=by exact ⟨_,_,_,_,rfl,⟨[dI (f.1+(a.2.1.length:Int))],[dB f.2],_,_,_,_,rfl,rfl,⟨rfl,rfl⟩,⟨rfl,rfl⟩,rfl⟩,⟨rfl,rfl⟩,rfl⟩)) ?_
 refine lc (dA 28 Qag (hb:=by (simp only[ae,aC,ap,aj,aA]; omega))) ?_
 refine w2 ?_
 refine Qb ?_
 refine w4 ?_
 refine Qb ?_
 refine l0_ ?_
 exact wp [(20,28)] ⟨rfl,rfl,rfl,rfl,rfl,(Qe (by rw[QG d]; simp[unL, *])),trivial⟩
end Go.Proofs.YtgpdhgadmjfokaaGreat
namespace Go.Proofs.YtgpdhgadmjfokaaGreat
open Go.RowKit
set_option maxRecDepth 100000
set_option maxHeartbeats 4000000
section
variable {n:Xr}{k i j m:Nat}{mk:ByteArray}{t u:Int}{on l:List Int}{s:Q5}{xt xu:QV}{ms:List ByteArray}{as_:List (List Int)}
def QxX [∀s,Decidable (StgOk s)](s:Q5):List (List Int):=ofG ltP (Qzq s.1 (Qq s).1.1)
end
end Go.Proofs.YtgpdhgadmjfokaaGreat
namespace Go.Proofs.YtgpdhgadmjfokaaGreat
open Go.RowKit
set_option maxRecDepth 100000
set_option maxHeartbeats 4000000
section
variable [∀s,Decidable (StgOk s)]{s:Q5}{o:QK}
def QxV (s:Q5)(o:QK):Bool:=(Qtq s o).2&&((pfV s (Qtq s o).1).2&&(pfV s (Qtq s o).1).1)
def QzB (s:Q5)(b:Int):Bool:=decide (0≤((s.2.2.1[b.toNat]?).getD (0,false)).1)&& !decide (((s.2.1[(((s.2.2.1[b.toNat]?).getD (0,false)).1).toNat]?).getD (ByteArray.empty,0)).2=1)
end
end Go.Proofs.YtgpdhgadmjfokaaGreat
namespace Go.Proofs.YtgpdhgadmjfokaaGreat
open Go.RowKit
set_option maxRecDepth 100000
set_option maxHeartbeats 4000000
section
variable [∀s,Decidable (StgOk s)]{s:Q5}{P:List (List Int)}{a b:Int}{k i j n:Nat}{m:Bool}{ms:List Bool}{x:List Int}{os_:List QK}
def Qws (s:Q5)(a b:Int)(ms:List Bool):List QK:=(ms.filter fun m=>QzB s b&&QxV s (a,b,m)).map fun m=>(a,b,m)
def QyI (s:Q5)(P:List (List Int))(a b:Int):List QK:=if (P.any fun p=>decide (p=[min a b,max a b]))=true∧a≠b then Qws s a b [false,true] else []
def Qzj (s:Q5)(P:List (List Int))(a:Int)(i:Nat):List QK:=(List.range i).flatMap fun b=>QyI s P a ((b:Nat):Int)
def Qzm (s:Q5)(P:List (List Int))(n k:Nat):List QK:=(List.range k).flatMap fun a=>Qzj s P ((a:Nat):Int) n
theorem Qzn {l:List (List Int)}{y:List Int}(c:l[k]? =some x)(h:¬x=y):((l.take k).any fun p=>decide (p=y))=((l.take (k+1)).any fun p=>decide (p=y)):=by rw[QG c]; simp[h]
def QzH (s:Q5)(c:Bool)(a b:Int)(ms:List Bool):List QK:=if c=true∧a≠b then Qws s a b ms else []
def QyD (s:Q5):List QK:=Qzm s (QxX s) s.1.2.length s.1.2.length
end
section
variable [∀s,Decidable (StgOk s)]{s:Q5}
def Qv5 (s:Q5):List QK:=if (sgV s).2=true then QyD s else []
end
end Go.Proofs.YtgpdhgadmjfokaaGreat
