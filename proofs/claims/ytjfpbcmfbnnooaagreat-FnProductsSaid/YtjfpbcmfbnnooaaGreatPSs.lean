import Derived.Test.YtjfpbcmfbnnooaaGreatPAu
import Derived.ArgAppend
import Derived.Laws.Shifts
import Derived.Laws.BitsAllLaws
import Derived.Sort.EveryDepth
import Derived.Sort.OwnSortedInts
import Derived.Shelf.Sort.AssemblyIn
set_option linter.all false
namespace Go.Proofs.YtjfpbcmfbnnooaaGreat
open Go.RowKit Tryz
set_option maxRecDepth 100000
def Qje {α:Type _}:∀{l:List (Nat×α)} {i:Nat} {x:α},lk l i=some x→(i,x)∈l
 | (j,y)::l,i,x,h=>by
  rw[UW] at h
  split at h
  ·rename_i e;cases h;subst e;exact aA ..
  ·exact az _ (Qje h)
noncomputable def tshT:List (Nat×Bool×Nat):=[(0,false,1),(2,false,1),(3,false,1),(4,false,1),(5,false,1),(6,false,1),(8,true,4),(9,false,1),(10,false,1),(11,false,1),(12,false,1),(14,true,2),(15,false,1),(16,false,1),(17,false,1),(19,true,1),(20,false,1),(22,false,1),(24,false,1),(25,false,1),(26,false,1),(28,true,3),(30,false,1),(32,true,2),(33,false,1),(36,false,1),(38,false,1),(41,false,1),(44,false,1),(46,false,1),(48,true,2),(49,false,1),(51,false,1),(52,false,1),(54,true,3),(55,false,1),(59,true,2),(60,false,1),(62,false,1),(63,false,1),(65,false,1),(68,true,3),(70,false,1),(73,false,1),(78,false,1),(80,false,1),(83,false,1),(84,false,1),(86,true,3),(90,true,4),(91,false,1),(93,false,1),(98,true,2),(99,false,1),(103,true,2),(111,false,1),(119,false,1),(121,true,6),(122,false,1),(127,false,1),(128,false,1),(131,false,1),(135,false,1),(139,true,4),(140,false,1),(145,false,1),(147,true,4),(155,false,1),(157,false,1),(159,false,1),(161,true,2),(162,false,1),(164,true,5),(167,false,1),(169,false,1),(172,false,1),(174,true,3),(176,false,1),(178,false,1),(183,true,2),(187,false,1),(194,false,1),(195,false,1),(202,false,1),(204,true,2),(207,true,2),(216,false,1),(218,true,2),(221,false,1),(222,false,1),(225,false,1),(227,true,2),(229,true,3),(236,false,1),(240,false,1),(242,true,7),(251,false,1),(253,true,3),(263,false,1),(264,false,1),(268,false,1),(270,false,1),(272,false,1),(273,false,1),(276,false,1),(279,false,1),(281,false,1),(282,false,1),(286,true,6),(290,true,2),(294,false,1),(296,true,4),(304,false,1),(305,false,1),(306,false,1),(308,false,1),(310,false,1),(313,true,3),(318,false,1),(321,false,1),(332,false,1),(333,false,1),(344,false,1),(346,true,2),(355,false,1),(359,false,1),(364,false,1),(365,false,1),(375,false,1)]
noncomputable def fldT:List (Nat×Nat):=[(512,0),(513,1),(514,2),(515,3),(896,0),(897,1),(1216,0),(1792,0),(1793,1),(1794,2),(2048,0),(2049,1),(3072,0),(3073,1),(3456,0),(3457,1),(3458,2),(3776,0),(3777,1),(4352,0),(4353,1),(4354,2),(5504,0),(5505,1),(5506,2),(5760,0),(5761,1),(5762,2),(5763,3),(6272,0),(6273,1),(6592,0),(6593,1),(7744,0),(7745,3),(7746,5),(8896,0),(8897,1),(8898,2),(8899,3),(9408,0),(9409,1),(9410,2),(9411,3),(10304,0),(10305,1),(10496,0),(10497,2),(10498,3),(10499,4),(11136,0),(11137,1),(11138,2),(11712,0),(11713,1),(13056,0),(13057,1),(13248,0),(13249,1),(13952,0),(13953,1),(14528,0),(14529,1),(14656,0),(14657,1),(14658,2),(15488,0),(15489,5),(15490,6),(16192,0),(16193,1),(16194,2),(18304,0),(18305,2),(18306,3),(18307,4),(18308,5),(18560,0),(18561,1),(18944,0),(18945,1),(18946,2),(18947,3),(20032,0),(20033,1),(20034,2),(22144,0)]
noncomputable def sliT:List (Nat×Nat):=[(22,5),(24,103),(25,9),(26,139),(30,90),(36,32),(46,147),(51,59),(52,68),(62,3),(119,62),(145,207),(159,290),(162,183),(169,253),(187,204),(225,229),(251,4),(272,313),(310,25)]
def QB1:(tshT.all fun p=>decide (tsh prog p.1=some p.2))=true:=by kernel_rfl
def QAB:(fldT.all fun p=>decide (fld prog (p.1 / 64) (p.1 % 64)=some p.2))=true:=by kernel_rfl
noncomputable def strT:List Nat:=[9,10,11]
noncomputable def strB (T:Nat):Bool:=match prog.underlying T with
 | some .string=>true
 | _=>false
theorem QBW:(strT.all strB)=true:=by kernel_rfl
theorem QBT {T:TypeId}(h:inB T strT=true):prog.underlying T=some .string:=by
 grind [List.all_eq_true,QBW,Qi3,strB]
noncomputable def sliB (T E:Nat):Bool:=match prog.underlying T with
 | some (.slice E')=>Nat.beq E' E
 | _=>false
def QBK:(sliT.all fun p=>sliB p.1 p.2)=true:=by kernel_rfl
def KW {T:TypeId}{b:Bool}{n:Nat}(h:lk tshT T=some (b,n)):tsh prog T=some (b,n):=aa (ao.1 QB1 _ (Qje h))
theorem Qrq {T f o:Nat}(h:lk fldT (Nat.add (Nat.mul 64 T) f)=some o)(a:Nat.blt f 64=true):fld prog T f=some o:=by
 have b:=aa (ao.1 QAB _ (Qje h))
 have a:=aD a
 grind
theorem QjF {T E:TypeId}(h:lk sliT T=some E):prog.underlying T=some (.slice E):=by
 have a:=ao.1 QBK _ (Qje h)
 grind [sliB,Nat.eq_of_beq_eq_true]
section
variable {A:Amb}{s s':St}{o:Oper}
def xlI {d:Nat}{x:Operand}{T ty:TypeId}{pos:String}{af:Array Edge}{g:Option (Nat×Bool)}{q a i j n:Nat}{E:TypeId}{e t:Ty}{xs:List e.Den}{z:e.Den}{b:t.Den}(B:Evl A s x (.ept q a i j))(m:s.tab.ent q=some (.arr E e xs))(w:a=e.wd)(C:xs[i]? =some z)(r:e.flat=true)(h:tsh prog T=some (false,n))(u:(leaves e z)[j]? =some (.dat t b))(v:Nat.blt d A.n=true):Does A prog ⟨some d,.load T x,ty,pos,af,g⟩ s (s.put d (lf (.dat t b))):=by
 subst w;exact ZE B m C r h u v
def QGV {d:Nat}{x:Operand}{T ty:TypeId}{pos:String}{af:Array Edge}{g:Option (Nat×Bool)}{q a i j n:Nat}{E:TypeId}{e:Ty}{xs:List e.Den}{z:e.Den}(v:Evl A s x (.ept q a i j))(h:s.tab.ent q=some (.arr E e xs))(u:a=e.wd)(w:xs[i]? =some z)(m:e.flat=true)(b:tsh prog T=some (true,n))(r:Nat.ble (j+n) e.wd=true)(t:Nat.blt d A.n=true):Does A prog ⟨some d,.load T x,ty,pos,af,g⟩ s (s.put d (ag (((leaves e z).drop j).take n))):=by
 subst u;exact UO v h w m b r t
def D_ (h:Does A prog o s s':=by
 first
 | ((with_reducible apply Qa2);exact Qa rfl;rfl;exact KW rfl;rfl;rfl)
 | ((with_reducible apply J7);exact Qa rfl;exact Qrq rfl rfl;rfl;rfl)
 | ((with_reducible apply Kh);rfl;rfl)
 | ((with_reducible apply UM);rfl;rfl)
 | ((with_reducible apply QbT);rfl;rfl;rfl)
 | ((with_reducible apply J8);exact Qa rfl;rfl;exact KW rfl;rfl;rfl)
 | ((with_reducible apply Qfg);(first|exact Qn rfl|exact Zx|exact Evl.str rfl|exact Evl.val);rfl)
 | ((with_reducible apply WA);(first|exact Qn rfl|exact Zx|exact Evl.str rfl|exact Evl.val);rfl)
 | ((with_reducible apply Qfd);(first|exact Qa rfl|exact Qn rfl);(first|exact Qa rfl|exact Qn rfl);rfl)
 | ((with_reducible apply Vi);(first|exact Qa rfl|exact Qn rfl);(first|exact Qa rfl|exact Qn rfl);rfl)
 | ((with_reducible apply Vk);(first|exact Qa rfl|exact Qn rfl);(first|exact Qa rfl|exact Qn rfl);rfl)
 | ((with_reducible apply Qkf);(first|exact Qa rfl|exact Qn rfl);(first|exact Qa rfl|exact Qn rfl);rfl)
 | ((with_reducible apply Qkd);(first|exact Qa rfl|exact Qn rfl);(first|exact Qa rfl|exact Qn rfl);rfl)
 | ((with_reducible apply Qfa);(first|exact Qa rfl|exact Qn rfl);(first|exact Qa rfl|exact Qn rfl);rfl)
 | ((with_reducible apply V5);(first|exact Qa rfl|exact Qn rfl);(first|exact Qa rfl|exact Qn rfl);rfl;omega)
 | ((with_reducible apply V6);(first|exact Qa rfl|exact Qn rfl);(first|exact Qa rfl|exact Qn rfl);rfl;omega)
 | ((with_reducible apply Qkh);exact Qa rfl;rfl)
 | ((with_reducible apply Qfh);exact Qa rfl;(first|exact Qm rfl|exact Evl.ev Zx|exact Evl.ev (Qn rfl));rfl)
 | ((with_reducible apply Qfi);exact Qa rfl;(first|exact Qm rfl|exact Evl.ev Zx|exact Evl.ev (Qn rfl));rfl)
 | ((with_reducible apply Qfc);exact Qa rfl;exact KW rfl;rfl;rfl)
 | ((with_reducible apply QdM);exact Qa rfl;exact KW rfl;rfl;rfl)
 | ((with_reducible apply QdK);exact Qa rfl;exact Qrq rfl rfl;rfl)
 | ((with_reducible apply Zd);exact Qa rfl;exact Qrq rfl rfl;rfl;rfl)
 | ((with_reducible apply QcM);exact Qa rfl;rfl;rfl)
 | ((with_reducible apply Qqy);exact Qa rfl;rfl;rfl)
 | ((with_reducible apply Qhw);exact Qa rfl;rfl;rfl;exact QjF rfl)
 | ((with_reducible apply Does.len);exact Qa rfl;rfl;exact QjF rfl)
 | ((with_reducible apply QcL);exact Qa rfl;rfl;exact QBT rfl)
 | ((with_reducible apply Qaa);(first|exact Qa rfl|exact Evl.str rfl);(first|exact Qa rfl|exact Evl.str rfl);rfl)
 | ((with_reducible apply V0);(first|exact Qa rfl|exact Evl.str rfl);(first|exact Qa rfl|exact Evl.str rfl);rfl)
 | ((with_reducible apply QR);exact Qa rfl;rfl;(first|exact Qm rfl|exact Evl.ev (Qn rfl)|exact Evl.ev Zx|exact Evl.ev (Evl.str rfl)|exact Evl.ev (QS _ rfl));rfl;exact KW rfl;rfl)
 | ((with_reducible apply UN);exact Qa rfl;(first|exact Qa rfl|exact Qn rfl);exact QjF rfl;exact KW rfl;rfl;omega;assumption)
 | ((with_reducible apply QdL);(first|exact Qa rfl|exact Evl.str rfl);(first|exact Qa rfl|exact Qn rfl);rfl;exact QBT rfl;omega;assumption)
 | ((with_reducible apply Qw);exact Qa rfl;rfl;(first|exact Qa rfl|exact Qn rfl);exact QjF rfl;exact KW rfl;rfl;omega;(first|omega|(simp only[ax];omega)))
 | ((with_reducible apply xlI);exact Qa rfl;rfl;rfl;assumption;rfl;exact KW rfl;rfl;rfl)
 | ((with_reducible apply QGV);exact Qa rfl;rfl;rfl;assumption;rfl;exact KW rfl;rfl;rfl)
 | ((with_reducible apply Zf);exact Qa rfl;exact Qa rfl;rfl)
 | ((with_reducible apply QW);exact Qa rfl;exact Qa rfl;rfl)):Does A prog o s s':=h
def xbx {T ty:TypeId}{d:Nat}{x:Operand}{pos:String}{af:Array Edge}{ops:Array Oper}{l:List Oper}{Q:Exit→St→Prop}(t:Nat){b:Bool}{ls:List LV}(k:AL A prog ops l Q (s.new d t (.ptr t 0) (.box T ls)))(m:Ev A s x (b,ls):=by first|exact Qm rfl|exact Evl.ev (Qn rfl)|exact Evl.ev Zx|exact Evl.ev (Evl.str rfl))(h:QH s.tab ls=true:=by rfl)(j:Nat.blt d A.n=true:=by rfl)(a:Fresh s t:=by exact Fresh.of rfl)(e:A.k0≤t:=by exact nlr rfl):AL A prog ops (⟨some d,.box T x,ty,pos,af,none⟩::l) Q s:=lc (QsG t m h j a e) k
def xal {T ty:TypeId}{d:Nat}{pos:String}{af:Array Edge}{g:Option (Nat×Bool)}(k:Nat)(t:Ty){z:Value}(j:zer prog T=some z)(e:z.cells.toList=t.zeros:=by rfl)(h:Nat.blt d A.n=true:=by rfl)(a:Fresh s k:=by exact Fresh.of rfl)(b:A.k0≤k:=by exact nlr rfl):Does A prog ⟨some d,.alloc T,ty,pos,af,g⟩ s (s.new d k (.ptr k 0) (.box T t.zlv)):=Qa1 k t j e h a b
def e1_ {i:Nat}{b:Bool}{ls:List LV}(h:lk s.tm i=some (.cm b ls):=by rfl):EvL A s [.tmp i] [(b,ls)]:=⟨_,_,rfl,Qm h,rfl⟩
def e2_ {i j:Nat}{b c:Bool}{ls a:List LV}(h:lk s.tm i=some (.cm b ls):=by rfl)(k:lk s.tm j=some (.cm c a):=by rfl):EvL A s [.tmp i,.tmp j] [(b,ls),(c,a)]:=⟨_,_,rfl,Qm h,_,_,rfl,Qm k,rfl⟩
def QDn {P:Program}{c:Code}{Q:Exit→St→Prop}(h:AC A P c Q s):AC A P c Q s:=h
def wI {G G':Prop}(h:G'→G:=by
 first
 | ((with_reducible apply lm);rfl;rfl)
 | ((with_reducible apply lgn);rfl;rfl;rfl)
 | ((with_reducible apply lc);exact D_)
 | ((with_reducible apply lgy);rfl;rfl;exact D_)
 | (with_reducible exact Qwn)
 | (with_reducible exact QCa)
 | (with_reducible exact Q5)
 | ((with_reducible apply Qsw);exact Qa rfl)
 | ((with_reducible apply Qsv);exact Qa rfl)
 | (with_reducible exact QsB)
 | (with_reducible exact Qsu)
 | (with_reducible exact Qht)
 | (with_reducible exact AC.skip)
 | (with_reducible exact Qwl)
 | (with_reducible exact QzR)
 | exact QDn):G'→G:=h
def w_ {G G':Prop}(k:G')(h:G'→G:=by exact wI):G:=h k
end
def rlm:Nat→List Nat→List Nat
 | _,[]=>[]
 | b,r::rs=>Nat.sub (Nat.sub b 1) r::rlm (Nat.mul 2 b) rs
def QiO (l:List Oper)(plan:List Item)(deps:List (List Nat)):Bool:=Nat.beq l.length plan.length&&(QaO l.toArray deps plan.length&&QaY plan deps&&JM l.toArray plan.length)
def ActsH (A:Amb)(P:Program)(l0:List Oper)(plan:List Item)(deps:List (List Nat))(s0:St):List Oper→List Item→Nat→Prop
 | o::l,it::p,i=>(∀s,At plan deps s0 i s→Acts A P l0.toArray o s (U6 s it))∧ActsH A P l0 plan deps s0 l p (i+1)
 | [],_,_=>QiO l0 plan deps=true
 | _::_,[],_=>QiO l0 plan deps=true
section
variable {A:Amb}{P:Program}{s s' s0:St}{Q:Exit→St→Prop}{l0 l:List Oper}{o:Oper}{it:Item}{p plan:List Item}{deps:List (List Nat)}{i:Nat}
def ActsH.to:∀{l:List Oper} {p:List Item} {i:Nat},ActsH A P l0 plan deps s0 l p i→ActsL A P l0.toArray plan deps s0 l p i∧QiO l0 plan deps=true
 | _::_,_::_,_,h=>⟨⟨h.1,(ActsH.to h.2).1⟩,(ActsH.to h.2).2⟩
 | [],_,_,h=>⟨trivial,h⟩
 | _::_,[],_,h=>⟨trivial,h⟩
def QCt {q:Nat}(a:At plan deps s0 i s)(h:(se plan deps s0 i q).isSome=true):(s.tab.ent q).isSome=true:=by
 obtain ⟨x,b⟩:=bq.1 h
 rw[a.n _ b];rfl
def DH_ (h:Does A prog o s s':=by
 first
 | ((with_reducible apply Qfh);exact At.v ‹_› rfl;(first|exact At.w ‹_› rfl|exact Evl.ev Zx|exact Evl.ev (Qn rfl));rfl)
 | ((with_reducible apply Qfi);exact At.v ‹_› rfl;(first|exact At.w ‹_› rfl|exact Evl.ev Zx|exact Evl.ev (Qn rfl));rfl)
 | ((with_reducible apply Qa2);exact At.v ‹_› rfl;exact At.n ‹_› _ rfl;exact KW rfl;rfl;rfl)
 | ((with_reducible apply J8);exact At.v ‹_› rfl;exact At.n ‹_› _ rfl;exact KW rfl;rfl;rfl)
 | ((with_reducible apply Kh);exact At.k ‹_› rfl;rfl)
 | ((with_reducible apply UM);exact At.k ‹_› rfl;rfl)
 | ((with_reducible apply QbT);exact At.k ‹_› rfl;rfl;rfl)
 | ((with_reducible apply Qfg);(first|exact Qn rfl|exact Zx|exact Evl.str rfl|exact Evl.val);rfl)
 | ((with_reducible apply WA);(first|exact Qn rfl|exact Zx|exact Evl.str rfl|exact Evl.val);rfl)
 | ((with_reducible apply Qfc);exact At.v ‹_› rfl;exact KW rfl;rfl;rfl)
 | ((with_reducible apply QdM);exact At.v ‹_› rfl;exact KW rfl;rfl;rfl)
 | ((with_reducible apply QdK);exact At.v ‹_› rfl;exact Qrq rfl rfl;rfl)
 | ((with_reducible apply Does.len);exact At.v ‹_› rfl;rfl;exact QjF rfl)
 | ((with_reducible apply Qhw);exact At.v ‹_› rfl;exact At.n ‹_› _ rfl;rfl;exact QjF rfl)
 | ((with_reducible apply Qfd);(first|exact At.v ‹_› rfl|exact Qn rfl);(first|exact At.v ‹_› rfl|exact Qn rfl);rfl)
 | ((with_reducible apply Vi);(first|exact At.v ‹_› rfl|exact Qn rfl);(first|exact At.v ‹_› rfl|exact Qn rfl);rfl)
 | ((with_reducible apply Vk);(first|exact At.v ‹_› rfl|exact Qn rfl);(first|exact At.v ‹_› rfl|exact Qn rfl);rfl)
 | ((with_reducible apply Qkf);(first|exact At.v ‹_› rfl|exact Qn rfl);(first|exact At.v ‹_› rfl|exact Qn rfl);rfl)
 | ((with_reducible apply Qkd);(first|exact At.v ‹_› rfl|exact Qn rfl);(first|exact At.v ‹_› rfl|exact Qn rfl);rfl)
 | ((with_reducible apply Qfa);(first|exact At.v ‹_› rfl|exact Qn rfl);(first|exact At.v ‹_› rfl|exact Qn rfl);rfl)
 | ((with_reducible apply V5);(first|exact At.v ‹_› rfl|exact Qn rfl);(first|exact At.v ‹_› rfl|exact Qn rfl);rfl;omega)
 | ((with_reducible apply V6);(first|exact At.v ‹_› rfl|exact Qn rfl);(first|exact At.v ‹_› rfl|exact Qn rfl);rfl;omega)
 | ((with_reducible apply Qkh);exact At.v ‹_› rfl;rfl)
 | ((with_reducible apply Qaa);(first|exact At.v ‹_› rfl|exact Evl.str rfl);(first|exact At.v ‹_› rfl|exact Evl.str rfl);rfl)
 | ((with_reducible apply V0);(first|exact At.v ‹_› rfl|exact Evl.str rfl);(first|exact At.v ‹_› rfl|exact Evl.str rfl);rfl)
 | ((with_reducible apply Zf);exact At.v ‹_› rfl;exact At.v ‹_› rfl;rfl)
 | ((with_reducible apply QW);exact At.v ‹_› rfl;exact At.v ‹_› rfl;rfl)
 | ((with_reducible apply J7);exact At.v ‹_› rfl;exact Qrq rfl rfl;exact QCt ‹_› rfl;rfl)
 | ((with_reducible apply QcM);exact At.v ‹_› rfl;exact QCt ‹_› rfl;rfl)
 | ((with_reducible apply QdL);(first|exact At.v ‹_› rfl|exact Evl.str rfl);(first|exact At.v ‹_› rfl|exact Qn rfl);rfl;exact QBT rfl;omega;assumption)
 | ((with_reducible apply UN);exact At.v ‹_› rfl;(first|exact At.v ‹_› rfl|exact Qn rfl);exact QjF rfl;exact KW rfl;rfl;omega;assumption)
 | ((with_reducible apply QR);exact At.v ‹_› rfl;exact At.n ‹_› _ rfl;(first|exact At.w ‹_› rfl|exact Evl.ev (Qn rfl)|exact Evl.ev Zx);rfl;exact KW rfl;rfl)):Does A prog o s s':=h
def zz (h:∀s,At plan deps s0 i s→Acts A P l0.toArray o s (U6 s it))(k:ActsH A P l0 plan deps s0 l p (i+1)):ActsH A P l0 plan deps s0 (o::l) (it::p) i:=⟨h,k⟩
def zI (h:∀s,At plan deps s0 i s→Acts A prog l0.toArray o s (U6 s it):=by
 first
 | ((with_reducible apply dxm);rfl;rfl)
 | ((with_reducible apply dxf);exact Qrq rfl rfl;rfl;rfl;rfl)
 | ((with_reducible apply dxl);exact KW rfl;rfl;rfl;rfl;rfl;rfl)
 | ((with_reducible apply dxt);rfl;rfl)
 | ((with_reducible apply dxn);rfl;rfl;rfl)
 | ((with_reducible apply dxa);exact KW rfl;rfl;rfl;rfl;rfl)
 | ((with_reducible apply dxo);rfl;rfl;rfl)
 | (intro _ _;(apply ac);exact DH_;rfl)
 | (intro _ _;(apply day);rfl;exact At.k ‹_› rfl;exact DH_;rfl)
 | (intro _ _;(apply Qwp);rfl;rfl;exact At.k ‹_› rfl;rfl;rfl)):ActsH A prog l0 plan deps s0 l p (i+1)→ActsH A prog l0 plan deps s0 (o::l) (it::p) i:=fun k=>⟨h,k⟩
def z_ {G G':Prop}(k:G')(h:G'→G:=by exact zI):G:=h k
def zN (h:QiO l0 plan deps=true:=by kernel_rfl):ActsH A prog l0 plan deps s0 [] [] i:=h
def dW {id:Nat}{y:Code}(plan:List Item)(e:List Nat)(H:ActsH A prog l plan (dms (rlm 1 e)) s0 l plan 0)(k:AC A prog y Q (stD plan s0 fun _=>true)):AC A prog (.seq (.region id l.toArray true) y) Q s0:=by
 obtain ⟨b,a⟩:=H.to
 rw[QiO,aH] at a
 exact dw plan _ mixed (aZ a.1) a.2 b k
def dV {id:Nat}(plan:List Item)(e:List Nat)(H:ActsH A prog l plan (dms (rlm 1 e)) s0 l plan 0)(k:Q .normal (stD plan s0 fun _=>true)):AC A prog (.region id l.toArray true) Q s0:=by
 obtain ⟨b,a⟩:=H.to
 rw[QiO,aH] at a
 exact dv plan _ mixed (aZ a.1) a.2 b k
def dZ {id:Nat}{y:Code}{b:Exit→St→Prop}(plan:List Item)(h:List Nat)(H:ActsH A prog l plan (dms (rlm 1 h)) s0 l plan 0)(k:AC A prog y b (stD plan s0 fun _=>true)):AC A prog (.region id l.toArray true) (QaZ (AC A prog y b) Q) s0:=by
 obtain ⟨e,a⟩:=H.to
 rw[QiO,aH] at a
 exact dz plan _ mixed (aZ a.1) a.2 e k
end
section
variable {A:Amb}{s:St}{f:FuncId}{xs:List Operand}{tys:Array TypeId}{args:List (Bool×List LV)}{d k:Nat}{ty T:TypeId}{pos:String}{af:Array Edge}{g:Option (Nat×Bool)}{pv:PV}{U U':Tab}{x y:Operand}
def evN:EvL A s [] []:=rfl
def evC {c:Bool×List LV}{cs:List (Bool×List LV)}(h:Ev A s x c)(k:EvL A s xs cs):EvL A s (x::xs) (c::cs):=⟨_,_,rfl,h,k⟩
def ebN:EvLB A s [] []:=rfl
def ebC {c:Bool×List LV}{cs:List (Bool×List LV)}(h:EvB A s x c)(k:EvLB A s xs cs):EvLB A s (x::xs) (c::cs):=⟨_,_,rfl,h,k⟩
def abN {e:Ty}:AbsL U e [] [] []:=⟨rfl,rfl⟩
def abC {e:Ty}{c:Bool×List LV}{cs:List (Bool×List LV)}{z:e.Den}{zs:List e.Den}{a b:List Nat}(h:Abs U e c.2 z a)(k:AbsL U e cs zs b):AbsL U e (c::cs) (z::zs) (a++b):=⟨_,_,_,_,rfl,h,k,rfl⟩
def dK (e:FC prog f args [] 0 (QJ pv))(a:Qe prog f)(b:EvL A s xs args:=by repeat' first|exact evN|exact Qm rfl|exact At.w ‹_› rfl|exact Evl.ev (Qn rfl)|exact Evl.ev Zx|exact Evl.ev (Evl.str rfl)|apply evC)(j:pv.tags=[]:=by rfl)(h:Nat.blt d A.n=true:=by rfl):Does A prog ⟨some d,.call ⟨.value (.func f),xs.toArray,tys⟩,ty,pos,af,g⟩ s (s.put d pv):=Kg e a b j h
def dB_ (h:FC prog f args [] 0 (QJ pv))(a:Qe prog f)(e:EvLB A s xs args:=by repeat' first|exact ebN|exact Ev.b (Qm rfl)|exact Ev.b (At.w ‹_› rfl)|exact Ev.b (Evl.ev (Qn rfl))|exact Ev.b (Evl.ev Zx)|exact Ev.b (Evl.ev (Evl.str rfl))|exact Qa4 (Qa rfl) rfl|exact Qa4 (At.v ‹_› rfl) (At.n ‹_› _ rfl)|apply ebC)(q:pv.tags=[]:=by rfl)(j:pv.fl=true:=by rfl)(m:Nat.blt d A.n=true:=by rfl):Does A prog ⟨some d,.call ⟨.value (.func f),xs.toArray,tys⟩,ty,pos,af,g⟩ s (s.put d pv):=WV h a e q j m
def dO (t:Nat){E:TypeId}{e:Ty}{zs:List e.Den}(m:FC prog f args [] 0 (WB E e zs))(h:Qe prog f)(j:EvL A s xs args:=by repeat' first|exact evN|exact Qm rfl|exact At.w ‹_› rfl|exact Evl.ev (Qn rfl)|exact Evl.ev Zx|exact Evl.ev (Evl.str rfl)|apply evC)(q:Nat.blt d A.n=true:=by rfl)(a:Fresh s t:=by first|exact Fresh.of rfl|exact At.fr ‹_› _ rfl)(b:A.k0≤t:=by exact nlr rfl):Does A prog ⟨some d,.call ⟨.value (.func f),xs.toArray,tys⟩,ty,pos,af,g⟩ s (s.mk_ d t [] E e zs):=QlJ t m h j q a b
def dOB (t:Nat){E:TypeId}{e:Ty}{zs:List e.Den}(q:FC prog f args [] 0 (WB E e zs))(j:Qe prog f)(m:EvLB A s xs args:=by repeat' first|exact ebN|exact Ev.b (Qm rfl)|exact Ev.b (At.w ‹_› rfl)|exact Ev.b (Evl.ev (Qn rfl))|exact Ev.b (Evl.ev Zx)|exact Ev.b (Evl.ev (Evl.str rfl))|exact Qa4 (Qa rfl) rfl|exact Qa4 (At.v ‹_› rfl) (At.n ‹_› _ rfl)|apply ebC)(r:Nat.blt d A.n=true:=by rfl)(a:Fresh s t:=by first|exact Fresh.of rfl|exact At.fr ‹_› _ rfl)(h:A.k0≤t:=by exact nlr rfl):Does A prog ⟨some d,.call ⟨.value (.func f),xs.toArray,tys⟩,ty,pos,af,g⟩ s (s.mk_ d t [] E e zs):=QdJ t q j m r a h
def dG (n:Nat)(m:FC prog f args [] 0 (Is pv U))(h:Qe prog f)(j:EvL A s xs args:=by repeat' first|exact evN|exact Qm rfl|exact At.w ‹_› rfl|exact Evl.ev (Qn rfl)|exact Evl.ev Zx|exact Evl.ev (Evl.str rfl)|apply evC)(a:YS pv U=true:=by rfl)(q:Nat.blt d A.n=true:=by rfl)(b:FrL s n (ZU U):=by repeat' first|exact trivial|exact Fresh.of rfl|exact At.fr ‹_› _ rfl|apply And.intro)(e:A.k0≤n:=by exact nlr rfl):Does A prog ⟨some d,.call ⟨.value (.func f),xs.toArray,tys⟩,ty,pos,af,g⟩ s (s.back d n pv U):=QlI n m h j a q b e
def dP (n:Nat)(ρ:List (Nat×Nat))(q:FC prog f args U k (Is pv U'))(h:Qe prog f)(m:EvL A s xs (args.map fun c=>(c.1,c.2.map (LV.ren (rn ρ)))):=by repeat' first|exact evN|exact Qm rfl|exact At.w ‹_› rfl|exact Evl.ev (Qn rfl)|exact Evl.ev Zx|exact Evl.ev (Evl.str rfl)|apply evC)(j:HasE s ρ U:=by repeat' first|exact rfl|exact trivial|exact At.n ‹_› _ rfl|apply And.intro)(e:(WZ (U.map fun p=>rn ρ p.1)&&YS pv U'&&WZ (U'.map fun p=>sg ρ k n p.1)&&QkV U U' k&&Nat.blt d A.n)=true:=by rfl)(a:FrK s n k (ZU U'):=by repeat' first|exact trivial|exact Fresh.of rfl|exact At.fr ‹_› _ rfl|apply And.intro)(b:A.k0≤n:=by exact nlr rfl):Does A prog ⟨some d,.call ⟨.value (.func f),xs.toArray,tys⟩,ty,pos,af,g⟩ s (s.backP d (sg ρ k n) (U.map fun p=>rn ρ p.1) pv U'):=Qe7 n ρ q h m j e a b
def dA {q a:Nat}{E:TypeId}{e:Ty}{us ys:List e.Den}(t:Nat)(r:Xv prog E e.wd=true)(B:Evl A s x (.ref q):=by first|exact Qa rfl|exact At.v ‹_› rfl)(w:s.tab.ent q=some (.arr E e us):=by first|exact rfl|exact At.n ‹_› _ rfl)(C:Evl A s y (.ref a):=by first|exact Qa rfl|exact At.v ‹_› rfl)(b:s.tab.ent a=some (.arr E e ys):=by first|exact rfl|exact At.n ‹_› _ rfl)(m:Nat.beq q a=false:=by rfl)(u:prog.underlying T=some (.slice E):=by exact QjF rfl)(hb:us.length+ys.length≤1073741824:=by first|omega|(simp only[ai,aC,au,av,aB];omega)|(simp only[ai,aX,au,av,aB];omega))(z:Nat.blt d A.n=true:=by rfl)(h:Fresh s t:=by first|exact Fresh.of rfl|exact At.fr ‹_› _ rfl)(j:A.k0≤t:=by exact nlr rfl):Does A prog ⟨some d,.call {callee:= .builtin .append,args:= #[x,y],argTypes:= #[T,T]},ty,pos,af,g⟩ s (s.mk_ d t [q,a] E e (us++ys)):=Qka t B w C b m u r hb z h j
def dBs (t:Nat){E:TypeId}{e:Ty}{n:Nat}{a:Array (Nat×Operand)}{b:List (Bool×List LV)}{us:List e.Den}{used:List Nat}{v:Bool}{z:Value}(F:zer prog E=some z)(C:prog.underlying T=some (.slice E):=by exact QjF rfl)(B:tsh prog E=some (v,e.wd):=by exact KW rfl)(q:a.toList.map (·.1)=List.range n:=by rfl)(hv:EvL A s (a.toList.map (·.2)) b:=by repeat' first|exact evN|exact Qm rfl|exact At.w ‹_› rfl|exact Evl.ev (Qn rfl)|exact Evl.ev Zx|exact Evl.ev (Evl.str rfl)|apply evC)(m:∀c∈b,QH s.tab c.2=true:=by exact ao.1 rfl)(hab:AbsL s.tab e b us used:=by repeat' first|exact abN|exact ⟨rfl,rfl⟩|apply abC)(u:used.Nodup:=by decide)(r:Nat.ble (n*e.wd) 16777216=true:=by rfl)(D:Nat.blt d A.n=true:=by rfl)(h:Fresh s t:=by first|exact Fresh.of rfl|exact At.fr ‹_› _ rfl)(j:A.k0≤t:=by exact nlr rfl):Does A prog ⟨some d,.buildSlice T n a,ty,pos,af,g⟩ s (s.mk_ d t used E e us):=YK t C B F q hv m hab u r D h j
end
section
variable {A:Amb}{s s1:St}{Q:Exit→St→Prop}{ops:Array Oper}{l:List Oper}{c x y:Code}{fn:Func}{k:Nat}{O O':PV→Tab→Prop}{pv pv0:PV}{T:Tab}
def alL (t:Nat){E:TypeId}{e:Ty}{u:List e.Den}(k:u.length≤9223372036854775807→AL A prog ops l Q s)(h:Evl A s (.tmp t) (.dat (.sl E e) u):=by exact Qa rfl):AL A prog ops l Q s:=AL.fact (Qt2 h) k
def alS (t:Nat){u:BA}(k:u.size≤9223372036854775807→AL A prog ops l Q s)(h:Evl A s (.tmp t) (dS u):=by exact Qa rfl):AL A prog ops l Q s:=AL.fact (Qrj h) k
def alI (t:Nat){n:Int}(k: -9223372036854775808≤n∧n≤9223372036854775807→AL A prog ops l Q s)(h:Evl A s (.tmp t) (dI n):=by exact Qa rfl):AL A prog ops l Q s:=AL.fact (QkJ h) k
def acI (t:Nat){n:Int}(k: -9223372036854775808≤n∧n≤9223372036854775807→AC A prog c Q s)(h:Evl A s (.tmp t) (dI n):=by exact Qa rfl):AC A prog c Q s:=AC.fact (QkJ h) k
def acG (t i:Nat){ls:List LV}{n:Int}(k: -9223372036854775808≤n∧n≤9223372036854775807→AC A prog c Q s)(h:Ev A s (.tmp t) (true,ls):=by exact Qm rfl)(hi:ls[i]? =some (dI n):=by rfl):AC A prog c Q s:=AC.fact (Qxs h hi) k
def cd_ {z:Operand}{p:Prop}{a:Decidable p}(e: @decide p a=false→¬p→AC A prog y Q s)(j: @decide p a=true→p→AC A prog x Q s)(b:Evl A s z (dB (@decide p a)):=by exact Qa rfl):AC A prog (.cond z x y) Q s:=H7 b (fun h=>j h (aa h)) fun h=>e h (ab h)
def cn_ {z:Operand}{p:Prop}{a:Decidable p}(e:(!@decide p a)=false→p→AC A prog y Q s)(j:(!@decide p a)=true→¬p→AC A prog x Q s)(b:Evl A s z (dB (!@decide p a)):=by exact Qa rfl):AC A prog (.cond z x y) Q s:=H7 b (fun h=>j h (QL h)) fun h=>e h (QB h)
def cb_ {z:Operand}{b:Bool}(e:b=false→AC A prog y Q s)(h:b=true→AC A prog x Q s)(a:Evl A s z (dB b):=by exact Qa rfl):AC A prog (.cond z x y) Q s:=H7 a h e
def cx_ {z:Operand}{b:Bool}(e:b=false→AC A prog x Q s)(j:b=true→AC A prog y Q s)(a:Evl A s z (dB (!b)):=by exact Qa rfl):AC A prog (.cond z x y) Q s:=H7 a (fun h=>e (by simpa using h)) fun h=>j (by simpa using h)
def rs_ {r:ResultVar}{d:Bool×List LV}(h:Rs A prog s r d:=by first|exact U5 rfl|exact Rs.cell rfl rfl (KW rfl) rfl|exact QsQ rfl rfl (KW rfl)):Rs A prog s r d:=h
def re_ (h:Res A prog fn s pv:=by first|exact Res.one rfl rs_|exact YF rfl rs_ rs_|exact QqB rfl rs_ rs_ rs_|exact QsO rfl rs_ rs_ rs_ rs_|exact QsP rfl):Res A prog fn s pv:=h
def fe_ (a:O=QJ pv)(h:Res A prog fn s pv:=by exact re_)(b:pv.tags=[]:=by rfl):fin A prog fn (Qa7 O k) .ret s:=by subst a;exact KJ h rfl b
def fqI {u v:Int}(a:O=QJ (lf (dI v)))(e:u=v)(h:Res A prog fn s (lf (dI u)):=by exact re_):fin A prog fn (Qa7 O k) .ret s:=by subst a;subst e;exact KJ h rfl rfl
def fqB {u v:Bool}(a:O=QJ (lf (dB v)))(e:u=v)(h:Res A prog fn s (lf (dB u)):=by exact re_):fin A prog fn (Qa7 O k) .ret s:=by subst a;subst e;exact KJ h rfl rfl
def fqS {u v:BA}(a:O=QJ (lf (dS v)))(e:u=v)(h:Res A prog fn s (lf (dS u)):=by exact re_):fin A prog fn (Qa7 O k) .ret s:=by subst a;subst e;exact KJ h rfl rfl
def fq_ {t:Ty}{u v:t.Den}(a:O=QJ (lf (.dat t v)))(e:u=v)(h:Res A prog fn s (lf (.dat t u)):=by exact re_):fin A prog fn (Qa7 O k) .ret s:=by subst a;subst e;exact KJ h rfl rfl
def fr_ (a:O=QJ pv)(h:Res A prog fn s pv0:=by exact re_)(e:pv0=pv)(b:pv.tags=[]:=by rfl):fin A prog fn (Qa7 O k) .ret s:=by subst a;exact KJ h e b
def fo_ {q:Nat}{E:TypeId}{e:Ty}{u v:List e.Den}(a:O=WB E e v)(j:u=v)(h:Res A prog fn s (lf (.ref q)):=by exact re_)(b:s.tab.ent q=some (.arr E e u):=by rfl):fin A prog fn (Qa7 O 0) .ret s:=by subst a;exact Qxx h b j
def fi_ (ρ:List (Nat×Nat))(j:O=Is pv T)(b:HasE ⟨[],s.tab⟩ ρ T)(a:Res A prog fn s pv0:=by exact re_)(h0:pv0=pv.ren (rn ρ):=by rfl)(e:WZ (T.map fun x=>rn ρ x.1)=true:=by rfl)(h:idB ρ k=true:=by rfl):fin A prog fn (Qa7 O k) .ret s:=by subst j;exact QAy pv T ρ a h0 b e h
def lp0 (n:Nat)(F:Nat→St)(j:Wk A s (F 0))(a:∀k,k≤n→AC A prog c (QaZ (fun s1=>k+1≤n∧Wk A s1 (F (k+1))) Q) (F k)):AC A prog (.loop c) Q s:=
 Qy (fun m s=>∃k,k≤n∧m=n - k∧s=F k) ⟨0,aL _,rfl,rfl⟩ j (by
  rintro m s ⟨k,b,rfl,rfl⟩
  refine (a k b).mono fun e s h=> ?_
  cases e <;> first|exact h|exact ⟨n - (k+1),_,by have:=h.1;omega,h.2,k+1,h.1,rfl,rfl⟩)
def lpK (n:Nat)(J:Nat→Prop)(F:Nat→St)(q:J 0)(r:Wk A s (F 0))(a:∀k,k≤n→J k→AC A prog c (QaZ (fun s1=>k+1≤n∧J (k+1)∧Wk A s1 (F (k+1))) Q) (F k)):AC A prog (.loop c) Q s:=
 Qy (fun m s=>∃k,k≤n∧m=n - k∧J k∧s=F k) ⟨0,aL _,rfl,q,rfl⟩ r (by
  rintro m s ⟨k,j,rfl,b,rfl⟩
  refine (a k j b).mono fun e s h=> ?_
  cases e <;> first|exact h|exact ⟨n - (k+1),_,by have:=h.1;omega,h.2.2,k+1,h.1,rfl,h.2.1,rfl⟩)
def l0_ {n:Nat}{a:St}(w:Wk A s1 a)(h:k+1≤n:=by omega):k+1≤n∧Wk A s1 a:=⟨h,w⟩
def lK_ {n:Nat}{J:Prop}{a:St}(j:J)(w:Wk A s1 a)(h:k+1≤n:=by omega):k+1≤n∧J∧Wk A s1 a:=⟨h,j,w⟩
end
@[reducible] def bx (q E:Nat) (cs:List LV):Nat×Option Ent:=(q,some (.box E cs))
@[reducible] def ar (q E:Nat) (e:Ty) (xs:List e.Den):Nat×Option Ent:=(q,some (.arr E e xs))
@[reducible] def i2 (d:Nat) (a0 a1:PV) (l:List Item):List Item:=io (d) a0::io (Nat.succ (d)) a1::l
@[reducible] def i3 (d:Nat) (a0 a1 a2:PV) (l:List Item):List Item:=io (d) a0::io (Nat.succ (d)) a1::io (Nat.succ (Nat.succ (d))) a2::l
@[reducible] def i4 (d:Nat) (a0 a1 a2 a3:PV) (l:List Item):List Item:=io (d) a0::io (Nat.succ (d)) a1::io (Nat.succ (Nat.succ (d))) a2::io (Nat.succ (Nat.succ (Nat.succ (d)))) a3::l
@[reducible] def i5 (d:Nat) (a0 a1 a2 a3 a4:PV) (l:List Item):List Item:=io (d) a0::io (Nat.succ (d)) a1::io (Nat.succ (Nat.succ (d))) a2::io (Nat.succ (Nat.succ (Nat.succ (d)))) a3::io (Nat.succ (Nat.succ (Nat.succ (Nat.succ (d))))) a4::l
@[reducible] def i6 (d:Nat) (a0 a1 a2 a3 a4 a5:PV) (l:List Item):List Item:=io (d) a0::io (Nat.succ (d)) a1::io (Nat.succ (Nat.succ (d))) a2::io (Nat.succ (Nat.succ (Nat.succ (d)))) a3::io (Nat.succ (Nat.succ (Nat.succ (Nat.succ (d))))) a4::io (Nat.succ (Nat.succ (Nat.succ (Nat.succ (Nat.succ (d)))))) a5::l
@[reducible] def i7 (d:Nat) (a0 a1 a2 a3 a4 a5 a6:PV) (l:List Item):List Item:=io (d) a0::io (Nat.succ (d)) a1::io (Nat.succ (Nat.succ (d))) a2::io (Nat.succ (Nat.succ (Nat.succ (d)))) a3::io (Nat.succ (Nat.succ (Nat.succ (Nat.succ (d))))) a4::io (Nat.succ (Nat.succ (Nat.succ (Nat.succ (Nat.succ (d)))))) a5::io (Nat.succ (Nat.succ (Nat.succ (Nat.succ (Nat.succ (Nat.succ (d))))))) a6::l
@[reducible] def i8 (d:Nat) (a0 a1 a2 a3 a4 a5 a6 a7:PV) (l:List Item):List Item:=io (d) a0::io (Nat.succ (d)) a1::io (Nat.succ (Nat.succ (d))) a2::io (Nat.succ (Nat.succ (Nat.succ (d)))) a3::io (Nat.succ (Nat.succ (Nat.succ (Nat.succ (d))))) a4::io (Nat.succ (Nat.succ (Nat.succ (Nat.succ (Nat.succ (d)))))) a5::io (Nat.succ (Nat.succ (Nat.succ (Nat.succ (Nat.succ (Nat.succ (d))))))) a6::io (Nat.succ (Nat.succ (Nat.succ (Nat.succ (Nat.succ (Nat.succ (Nat.succ (d)))))))) a7::l
@[reducible] def i9 (d:Nat) (a0 a1 a2 a3 a4 a5 a6 a7 a8:PV) (l:List Item):List Item:=io (d) a0::io (Nat.succ (d)) a1::io (Nat.succ (Nat.succ (d))) a2::io (Nat.succ (Nat.succ (Nat.succ (d)))) a3::io (Nat.succ (Nat.succ (Nat.succ (Nat.succ (d))))) a4::io (Nat.succ (Nat.succ (Nat.succ (Nat.succ (Nat.succ (d)))))) a5::io (Nat.succ (Nat.succ (Nat.succ (Nat.succ (Nat.succ (Nat.succ (d))))))) a6::io (Nat.succ (Nat.succ (Nat.succ (Nat.succ (Nat.succ (Nat.succ (Nat.succ (d)))))))) a7::io (Nat.succ (Nat.succ (Nat.succ (Nat.succ (Nat.succ (Nat.succ (Nat.succ (Nat.succ (d))))))))) a8::l
def wI2 {G G1 G':Prop}(h1:G1→G:=by exact wI)(h2:G'→G1:=by exact wI):G'→G:=fun k=>h1 (h2 k)
def wI4 {G G1 G':Prop}(h1:G1→G:=by exact wI2)(h2:G'→G1:=by exact wI2):G'→G:=fun k=>h1 (h2 k)
def wI8 {G G1 G':Prop}(h1:G1→G:=by exact wI4)(h2:G'→G1:=by exact wI4):G'→G:=fun k=>h1 (h2 k)
def zI2 {G G1 G':Prop}(h1:G1→G:=by exact zI)(h2:G'→G1:=by exact zI):G'→G:=fun k=>h1 (h2 k)
def zI4 {G G1 G':Prop}(h1:G1→G:=by exact zI2)(h2:G'→G1:=by exact zI2):G'→G:=fun k=>h1 (h2 k)
def zI8 {G G1 G':Prop}(h1:G1→G:=by exact zI4)(h2:G'→G1:=by exact zI4):G'→G:=fun k=>h1 (h2 k)
def y1 {G G1:Prop}(h1:G1→G:=by exact zI)(h0:G1:=by exact zN):G:=h1 h0
def w2 {G G':Prop}(k:G')(h1:G'→G:=by exact wI2):G:=h1 k
def z2 {G G':Prop}(k:G')(h1:G'→G:=by exact zI2):G:=h1 k
def y2 {G G1:Prop}(h1:G1→G:=by exact zI2)(h0:G1:=by exact zN):G:=h1 h0
def w3 {G G1 G':Prop}(k:G')(h1:G1→G:=by exact wI2)(h2:G'→G1:=by exact wI):G:=h1 (h2 k)
def z3 {G G1 G':Prop}(k:G')(h1:G1→G:=by exact zI2)(h2:G'→G1:=by exact zI):G:=h1 (h2 k)
def y3 {G G1 G2:Prop}(h1:G1→G:=by exact zI2)(h2:G2→G1:=by exact zI)(h0:G2:=by exact zN):G:=h1 (h2 h0)
def w4 {G G':Prop}(k:G')(h1:G'→G:=by exact wI4):G:=h1 k
def z4 {G G':Prop}(k:G')(h1:G'→G:=by exact zI4):G:=h1 k
def y4 {G G1:Prop}(h1:G1→G:=by exact zI4)(h0:G1:=by exact zN):G:=h1 h0
def w5 {G G1 G':Prop}(k:G')(h1:G1→G:=by exact wI4)(h2:G'→G1:=by exact wI):G:=h1 (h2 k)
def z5 {G G1 G':Prop}(k:G')(h1:G1→G:=by exact zI4)(h2:G'→G1:=by exact zI):G:=h1 (h2 k)
def y5 {G G1 G2:Prop}(h1:G1→G:=by exact zI4)(h2:G2→G1:=by exact zI)(h0:G2:=by exact zN):G:=h1 (h2 h0)
def w6 {G G1 G':Prop}(k:G')(h1:G1→G:=by exact wI4)(h2:G'→G1:=by exact wI2):G:=h1 (h2 k)
def z6 {G G1 G':Prop}(k:G')(h1:G1→G:=by exact zI4)(h2:G'→G1:=by exact zI2):G:=h1 (h2 k)
def y6 {G G1 G2:Prop}(h1:G1→G:=by exact zI4)(h2:G2→G1:=by exact zI2)(h0:G2:=by exact zN):G:=h1 (h2 h0)
def w7 {G G1 G2 G':Prop}(k:G')(h1:G1→G:=by exact wI4)(h2:G2→G1:=by exact wI2)(h3:G'→G2:=by exact wI):G:=h1 (h2 (h3 k))
def z7 {G G1 G2 G':Prop}(k:G')(h1:G1→G:=by exact zI4)(h2:G2→G1:=by exact zI2)(h3:G'→G2:=by exact zI):G:=h1 (h2 (h3 k))
def y7 {G G1 G2 G3:Prop}(h1:G1→G:=by exact zI4)(h2:G2→G1:=by exact zI2)(h3:G3→G2:=by exact zI)(h0:G3:=by exact zN):G:=h1 (h2 (h3 h0))
def w8 {G G':Prop}(k:G')(h1:G'→G:=by exact wI8):G:=h1 k
def z8 {G G':Prop}(k:G')(h1:G'→G:=by exact zI8):G:=h1 k
def y8 {G G1:Prop}(h1:G1→G:=by exact zI8)(h0:G1:=by exact zN):G:=h1 h0
def w9 {G G1 G':Prop}(k:G')(h1:G1→G:=by exact wI8)(h2:G'→G1:=by exact wI):G:=h1 (h2 k)
def z9 {G G1 G':Prop}(k:G')(h1:G1→G:=by exact zI8)(h2:G'→G1:=by exact zI):G:=h1 (h2 k)
def y9 {G G1 G2:Prop}(h1:G1→G:=by exact zI8)(h2:G2→G1:=by exact zI)(h0:G2:=by exact zN):G:=h1 (h2 h0)
def w10 {G G1 G':Prop}(k:G')(h1:G1→G:=by exact wI8)(h2:G'→G1:=by exact wI2):G:=h1 (h2 k)
def z10 {G G1 G':Prop}(k:G')(h1:G1→G:=by exact zI8)(h2:G'→G1:=by exact zI2):G:=h1 (h2 k)
def y10 {G G1 G2:Prop}(h1:G1→G:=by exact zI8)(h2:G2→G1:=by exact zI2)(h0:G2:=by exact zN):G:=h1 (h2 h0)
def w11 {G G1 G2 G':Prop}(k:G')(h1:G1→G:=by exact wI8)(h2:G2→G1:=by exact wI2)(h3:G'→G2:=by exact wI):G:=h1 (h2 (h3 k))
def z11 {G G1 G2 G':Prop}(k:G')(h1:G1→G:=by exact zI8)(h2:G2→G1:=by exact zI2)(h3:G'→G2:=by exact zI):G:=h1 (h2 (h3 k))
def y11 {G G1 G2 G3:Prop}(h1:G1→G:=by exact zI8)(h2:G2→G1:=by exact zI2)(h3:G3→G2:=by exact zI)(h0:G3:=by exact zN):G:=h1 (h2 (h3 h0))
def w12 {G G1 G':Prop}(k:G')(h1:G1→G:=by exact wI8)(h2:G'→G1:=by exact wI4):G:=h1 (h2 k)
def y12 {G G1 G2:Prop}(h1:G1→G:=by exact zI8)(h2:G2→G1:=by exact zI4)(h0:G2:=by exact zN):G:=h1 (h2 h0)
def w13 {G G1 G2 G':Prop}(k:G')(h1:G1→G:=by exact wI8)(h2:G2→G1:=by exact wI4)(h3:G'→G2:=by exact wI):G:=h1 (h2 (h3 k))
def z13 {G G1 G2 G':Prop}(k:G')(h1:G1→G:=by exact zI8)(h2:G2→G1:=by exact zI4)(h3:G'→G2:=by exact zI):G:=h1 (h2 (h3 k))
def y13 {G G1 G2 G3:Prop}(h1:G1→G:=by exact zI8)(h2:G2→G1:=by exact zI4)(h3:G3→G2:=by exact zI)(h0:G3:=by exact zN):G:=h1 (h2 (h3 h0))
def w14 {G G1 G2 G':Prop}(k:G')(h1:G1→G:=by exact wI8)(h2:G2→G1:=by exact wI4)(h3:G'→G2:=by exact wI2):G:=h1 (h2 (h3 k))
def z14 {G G1 G2 G':Prop}(k:G')(h1:G1→G:=by exact zI8)(h2:G2→G1:=by exact zI4)(h3:G'→G2:=by exact zI2):G:=h1 (h2 (h3 k))
def y14 {G G1 G2 G3:Prop}(h1:G1→G:=by exact zI8)(h2:G2→G1:=by exact zI4)(h3:G3→G2:=by exact zI2)(h0:G3:=by exact zN):G:=h1 (h2 (h3 h0))
def w15 {G G1 G2 G3 G':Prop}(k:G')(h1:G1→G:=by exact wI8)(h2:G2→G1:=by exact wI4)(h3:G3→G2:=by exact wI2)(h4:G'→G3:=by exact wI):G:=h1 (h2 (h3 (h4 k)))
def y15 {G G1 G2 G3 G4:Prop}(h1:G1→G:=by exact zI8)(h2:G2→G1:=by exact zI4)(h3:G3→G2:=by exact zI2)(h4:G4→G3:=by exact zI)(h0:G4:=by exact zN):G:=h1 (h2 (h3 (h4 h0)))
def w16 {G G1 G':Prop}(k:G')(h1:G1→G:=by exact wI8)(h2:G'→G1:=by exact wI8):G:=h1 (h2 k)
def z16 {G G1 G':Prop}(k:G')(h1:G1→G:=by exact zI8)(h2:G'→G1:=by exact zI8):G:=h1 (h2 k)
def clR (E:TypeId)(e:Ty)(xs:List e.Den):Rsc where
 rel N w f v:=f=[]∧∃ad,v= .slice ad xs.length xs.length∧Rd N (.sl E e) w [v] xs
 fl:=false
 keep:=fun ⟨h1,ad,h2,h3⟩ _ h=>⟨h1,ad,h2,h3.mono h⟩
 lt:=fun ⟨h1,_⟩ g hg=>by rw[h1] at hg;cases hg
 one:=fun ⟨_,ad,h,_⟩=>by rw[h];rfl
 noN:=fun h=>by cases h
section
variable {A:Amb}{P:Program}{s:St}{x y:Operand}{d:Nat}{T T' ty:TypeId}{pos:String}{af:Array Edge}{g:Option (Nat×Bool)}
def gtB (m n:BA):Bool:= !Op.bytesLess m.toList n.toList&& !decide (m=n)
end
section
variable {A:Amb}{s:St}
def UP {p:Nat}{E':TypeId}{cs:List LV}(b:List LV)(d:s.tab.ent p=some (.box E' cs))(k:Qov cs b):Wk A s ⟨s.tm,(p,some (.box E' b))::s.tab⟩:=fun a w r=>by
 obtain ⟨e,r⟩:=r
 obtain ⟨g,c,f,h,i,j⟩:=r.cx.en p _ d
 exact ⟨e,r.mod d (ZN w) (fun _ _ _=>rfl) ⟨g,c,f,h,i,j.nils k⟩⟩
end
section
variable {A:Amb}{P:Program}{s:St}{x y:Operand}{d:Nat}{T T' ty:TypeId}{pos:String}{af:Array Edge}{g:Option (Nat×Bool)}
def QkR (a:BinOp)(b:a= .and∨a= .or)(m n:Nat)(h:m<9223372036854775808)(i:n<9223372036854775808):bits a .i64 (m:Int) (n:Int)=((if a= .and then m &&& n else m ||| n:Nat):Int):=by
 have c:(BitVec.ofInt 64 (m:Int)).toNat=m:=by rw[BitVec.ofInt_natCast,BitVec.toNat_ofNat];exact cH (by omega)
 have e:(BitVec.ofInt 64 (n:Int)).toNat=n:=by rw[BitVec.ofInt_natCast,BitVec.toNat_ofNat];exact cH (by omega)
 rcases b with rfl|rfl
 ·have f:m &&& n<2 ^ 63:=Nat.and_lt_two_pow _ (by omega)
  show IntKind.i64.wrap ((BitVec.ofInt 64 (m:Int) &&& BitVec.ofInt 64 (n:Int)).toNat:Int)=_
  rw[BitVec.toNat_and,c,e,IntWalk.i64_in _ (by omega)]
  rfl
 ·have f:m ||| n<2 ^ 63:=Nat.or_lt_two_pow (by omega) (by omega)
  show IntKind.i64.wrap ((BitVec.ofInt 64 (m:Int) ||| BitVec.ofInt 64 (n:Int)).toNat:Int)=_
  rw[BitVec.toNat_or,c,e,IntWalk.i64_in _ (by omega)]
  rfl
def QCi {m n:Int}(f:Evl A s x (dI m))(h:Evl A s y (dI n))(o:Nat.blt d A.n=true)(h0:0≤m)(c:0≤n):Does A P ⟨some d,.binOp .and T x y T',ty,pos,af,g⟩ s (s.put d (lf (dI ((m.toNat &&& n.toNat:Nat):Int)))):=
 Qk rfl o fun e a w r=>by
  have j:=f.i r
  have k:=h.i r
  have q:=(LVR.int (f e a w r)).2
  have t:=(LVR.int (h e a w r)).2
  have b:=QkR .and (.inl rfl) m.toNat n.toNat (by omega) (by omega)
  rw[ce h0,ce c] at b
  have b:bits .and .i64 m n=((m.toNat &&& n.toNat:Nat):Int):=b
  have l:Op.intBits .and .i64 m n=pure (.int .i64 ((m.toNat &&& n.toNat:Nat):Int)):=by rw[← b];rfl
  have p:m.toNat &&& n.toNat≤m.toNat:=Nat.and_le_left
  refine ⟨.int .i64 ((m.toNat &&& n.toNat:Nat):Int),?_,_,rfl,YR (by omega)⟩
  simp only[execOp,j,k,eqGuard_at_int,binOp,l]
  simp
def QE4 {m n:Int}(f:Evl A s x (dI m))(h:Evl A s y (dI n))(o:Nat.blt d A.n=true)(h0:0≤m)(c:0≤n):Does A P ⟨some d,.binOp .or T x y T',ty,pos,af,g⟩ s (s.put d (lf (dI ((m.toNat ||| n.toNat:Nat):Int)))):=
 Qk rfl o fun e a w r=>by
  have j:=f.i r
  have k:=h.i r
  have q:=(LVR.int (f e a w r)).2
  have t:=(LVR.int (h e a w r)).2
  have b:=QkR .or (.inr rfl) m.toNat n.toNat (by omega) (by omega)
  rw[ce h0,ce c] at b
  have b:bits .or .i64 m n=((m.toNat ||| n.toNat:Nat):Int):=b
  have l:Op.intBits .or .i64 m n=pure (.int .i64 ((m.toNat ||| n.toNat:Nat):Int)):=by rw[← b];rfl
  have p:m.toNat ||| n.toNat<2 ^ 63:=Nat.or_lt_two_pow (by omega) (by omega)
  refine ⟨.int .i64 ((m.toNat ||| n.toNat:Nat):Int),?_,_,rfl,YR (by omega)⟩
  simp only[execOp,j,k,eqGuard_at_int,binOp,l]
  simp
def QCj {m n:Int}(c:Evl A s x (dI m))(l:Evl A s y (dI n))(k:Nat.blt d A.n=true)(h0:0≤n∧n≤62)(b:0≤m):Does A P ⟨some d,.binOp .shr T x y T',ty,pos,af,g⟩ s (s.put d (lf (dI (m / 2 ^ n.toNat)))):=
 Qk rfl k fun e a w r=>by
  have f:=c.i r
  have h:=l.i r
  have q:=(LVR.int (c e a w r)).2
  have j:Op.shift .shr .i64 m .i64 n=pure (.int .i64 (m / 2 ^ n.toNat)):=by
   rw[shift_shr_any _ _ _ _ h0.1,show IntKind.i64.bits=64 from rfl,dt (by omega)]
  have o:0≤m / 2 ^ n.toNat:=Int.ediv_nonneg b (Int.pow_nonneg (by decide))
  have p:m / 2 ^ n.toNat≤m:=Int.ediv_le_self _ b
  refine ⟨.int .i64 (m / 2 ^ n.toNat),?_,_,rfl,YR (by omega)⟩
  simp only[execOp,f,h,eqGuard_at_int,binOp,j]
  simp
end
def Qf7:EqT prog 2 59 true (.pr .int .str):=EqT.struct underlying59 (by kernel_rfl) (EqFs.cons (by decide) rfl Zv (fun _=>rfl) (EqT.int VB) (EqFs.one (by decide) rfl Wv (fun _=>rfl) (EqT.str Yd)))
def Qf5:(prog.eqGuardType prog.depth 59=false)∧2≤10000:=⟨by kernel_rfl,by decide⟩
def Qt0:EqT prog 2 68 true (.pr .int (.pr .int .int)):=EqT.struct underlying68 (by kernel_rfl) (EqFs.cons (by decide) rfl Zv (fun _=>rfl) (EqT.int VB) (EqFs.cons (by decide) rfl Zv (fun _=>rfl) (EqT.int VB) (EqFs.one (by decide) rfl Zv (fun _=>rfl) (EqT.int VB))))
def QtZ:(prog.eqGuardType prog.depth 68=false)∧2≤10000:=⟨by kernel_rfl,by decide⟩
def Qo9:EqT prog 2 103 true (.pr .str .int):=EqT.struct underlying103 (by kernel_rfl) (EqFs.cons (by decide) rfl Wv (fun _=>rfl) (EqT.str Yd) (EqFs.one (by decide) rfl Zv (fun _=>rfl) (EqT.int VB)))
def Qo7:(prog.eqGuardType prog.depth 103=false)∧2≤10000:=⟨by kernel_rfl,by decide⟩
def Qxp:EqT prog 2 183 true (.pr .int .bool):=EqT.struct underlying183 (by kernel_rfl) (EqFs.cons (by decide) rfl Zv (fun _=>rfl) (EqT.int VB) (EqFs.one (by decide) rfl U1 (fun _=>rfl) (EqT.bool YY)))
def Qxn:(prog.eqGuardType prog.depth 183=false)∧2≤10000:=⟨by kernel_rfl,by decide⟩
def Qxq:EqT prog 2 207 true (.pr .int .bool):=EqT.struct underlying207 (by kernel_rfl) (EqFs.cons (by decide) rfl Zv (fun _=>rfl) (EqT.int VB) (EqFs.one (by decide) rfl U1 (fun _=>rfl) (EqT.bool YY)))
def Qxo:(prog.eqGuardType prog.depth 207=false)∧2≤10000:=⟨by kernel_rfl,by decide⟩
def QE0:ZeroV prog 3 false .int:=⟨_,Ye,rfl⟩
def Qgp (xs:List Int):List Int:=xs.mergeSort fun x y=>decide (x≤y)
def QbD (xs:List Int):(Qgp xs).Perm xs:=List.mergeSort_perm ..
def QrB (xs:List Int):(Qgp xs).length=xs.length:=(QbD xs).length_eq
def QrC {xs:List Int}{x:Int}:x∈Qgp xs↔x∈xs:=(QbD xs).mem_iff
theorem Qi6 (xs:List Int):(Qgp xs).Pairwise fun x y=>x≤y:=by
 have h:=List.pairwise_mergeSort (le:=fun x y:Int=>decide (x≤y)) (fun a b c d e=>by simp only[aY] at*;omega) (fun a b=>by simp only[ci,aY];omega) xs
 exact h.imp fun h=>by simpa using h
def QFm (P:Program)(f:FuncId):Prop:=∀(blk cap:Nat) (zs:List Int) (w:World),Sort.Holds (Value.int .i64) w blk 0 zs.toArray→blk<w.heap.size→zs.length<4611686018427387904→
 Calls P f #[.slice (some ⟨blk,0,none⟩) zs.length cap] w fun e w'=>e= .returned (.tuple #[])∧∃n os,w'=Sort.grow (Sort.putRow (Value.int .i64) (Sort.ahead w n) blk 0 (Qgp zs).toArray) os
def QCp (P:Program)(f:FuncId):Prop:=∀w:World,Calls P f #[.slice none 0 0] w fun e w'=>e= .returned (.tuple #[])∧Nw w w'
structure TO {α:Type _} (lt:α→α→Bool):Prop where
  irr:∀x,lt x x=false
  tr:∀x y z,lt x y=true→lt y z=true→lt x z=true
  tot:∀x y,lt x y=true∨x=y∨lt y x=true
def Zc {α:Type _}[DecidableEq α](lt:α→α→Bool)(x:α):List α→List α
 | []=>[x]
 | y::l=>if lt y x=true then y::Zc lt x l else if y=x then y::l else x::y::l
def QqL {α:Type _}[DecidableEq α]:List α→List α
 | []=>[]
 | [x]=>[x]
 | x::y::l=>if x=y then QqL (y::l) else x::QqL (y::l)
def ofG {α:Type _}[DecidableEq α](lt:α→α→Bool)(l:List α):List α:=l.foldl (fun s x=>Zc lt x s) []
section
variable {α:Type _}[DecidableEq α]{lt:α→α→Bool}{l a b:List α}{x y z:α}{k:Nat}
omit [DecidableEq α] in
def TO.ext (h:TO lt):∀{a b:List α},a.Pairwise (fun x y=>lt x y=true)→b.Pairwise (fun x y=>lt x y=true)→(∀x,x∈a↔x∈b)→a=b
 | [],[],_,_,_=>rfl
 | [],y::b,_,_,hm=>by have:=(hm y).2 (aA ..);cases this
 | x::a,[],_,_,hm=>by have:=(hm x).1 (aA ..);cases this
 | x::a,y::b,ha,hb,hm=>by
  obtain ⟨g,j⟩:=bK.1 ha
  obtain ⟨i,m⟩:=bK.1 hb
  have f:x=y:=by
   rcases aK.1 ((hm x).1 (aA ..)) with c|c
   ·exact c
   ·rcases aK.1 ((hm y).2 (aA ..)) with e|e
    ·exact e.symm
    ·have:=h.tr _ _ _ (g _ e) (i _ c)
     rw[h.irr] at this;cases this
  subst f
  congr 1
  refine h.ext j m fun z=>⟨fun d=> ?_,fun d=> ?_⟩
  ·rcases aK.1 ((hm z).1 (az _ d)) with c|c
   ·subst c;have:=g _ d;rw[h.irr] at this;cases this
   ·exact c
  ·rcases aK.1 ((hm z).2 (az _ d)) with c|c
   ·subst c;have:=i _ d;rw[h.irr] at this;cases this
   ·exact c
theorem Z2:z∈Zc lt x l↔z=x∨z∈l:=by
 induction l with
 | nil=>simp[Zc]
 | cons y l c=>
  unfold Zc
  split
  ·rw[aK,c,aK]
   constructor
   ·rintro (h|h|h)
    ·exact .inr (.inl h)
    ·exact .inl h
    ·exact .inr (.inr h)
   ·rintro (h|h|h)
    ·exact .inr (.inl h)
    ·exact .inl h
    ·exact .inr (.inr h)
  ·split
   ·rename_i h;subst h
    rw[aK]
    exact ⟨fun h=>h.elim .inl fun h=> .inr (.inr h),fun h=>h.elim .inl id⟩
   ·rw[aK]
def KQ (h:TO lt)(f:l.Pairwise (fun x y=>lt x y=true)):(Zc lt x l).Pairwise (fun x y=>lt x y=true):=by
 induction l with
 | nil=>simp[Zc]
 | cons y l n=>
  obtain ⟨j,m⟩:=bK.1 f
  unfold Zc
  split
  ·rename_i i
   refine bK.2 ⟨fun z c=> ?_,n m⟩
   rcases Z2.1 c with rfl|c
   ·exact i
   ·exact j z c
  ·split
   ·exact f
   ·rename_i i g
    have e:lt x y=true:=by
     rcases h.tot x y with d|d|d
     ·exact d
     ·exact absurd d.symm g
     ·exact absurd d i
    refine bK.2 ⟨fun z c=> ?_,f⟩
    rcases aK.1 c with rfl|c
    ·exact e
    ·exact h.tr _ _ _ e (j z c)
def Qgk (h:TO lt):∀(l s:List α),s.Pairwise (fun x y=>lt x y=true)→(l.foldl (fun s x=>Zc lt x s) s).Pairwise (fun x y=>lt x y=true)∧∀z,z∈l.foldl (fun s x=>Zc lt x s) s↔z∈s∨z∈l
 | [],s,hs=>⟨hs,fun z=>by simp⟩
 | x::l,s,hs=>by
  obtain ⟨c,d⟩:=Qgk h l _ (KQ (x:=x) h hs)
  refine ⟨c,fun z=> ?_⟩
  rw[bn,d,Z2,aK]
  constructor
  ·rintro ((h|h)|h)
   ·exact .inr (.inl h)
   ·exact .inl h
   ·exact .inr (.inr h)
  ·rintro (h|h|h)
   ·exact .inl (.inr h)
   ·exact .inl (.inl h)
   ·exact .inr h
def Ve (h:TO lt)(l:List α):(ofG lt l).Pairwise (fun x y=>lt x y=true):=(Qgk h l [] co).1
def Qan (h:TO lt)(l:List α):z∈ofG lt l↔z∈l:=by
 have:=(Qgk h l [] co).2 z
 simpa [ofG] using this
def Qvb:Zc lt x (ofG lt l)=ofG lt (l++[x]):=by unfold ofG;rw[bN];rfl
def Qjw:∀{k:Nat} {l:List α},(∀j,j<k→∀y,l[j]? =some y→lt y x=true)→k≤l.length→(∀y,l[k]? =some y→lt y x=false∧y≠x)→Zc lt x l=l.take k++x::l.drop k
 | 0,[],_,_,_=>rfl
 | 0,y::l,_,_,h2=>by
  obtain ⟨d,e⟩:=h2 y rfl
  unfold Zc
  rw[if_neg (by rw[d];decide),if_neg e];rfl
 | k+1,[],_,hk,_=>by simp at hk
 | k+1,y::l,h1,hk,h2=>by
  unfold Zc
  rw[if_pos (h1 0 (by omega) y rfl),Qjw (k:=k) (fun j f z c=>h1 (j+1) (by omega) z (by simpa using c)) (by simpa using hk) (fun z c=>h2 z (by simpa using c))]
  rfl
def Qdx:∀{k:Nat} {l:List α},(∀j,j<k→∀y,l[j]? =some y→lt y x=true)→l[k]? =some x→lt x x=false→Zc lt x l=l
 | 0,[],_,h,_=>by simp at h
 | 0,y::l,_,h,h3=>by
  simp only[bQ,br] at h
  subst h
  unfold Zc
  rw[if_neg (by rw[h3];decide),if_pos rfl]
 | k+1,[],_,h,_=>by simp at h
 | k+1,y::l,h1,h,h3=>by
  unfold Zc
  rw[if_pos (h1 0 (by omega) y rfl),Qdx (k:=k) (fun j d z c=>h1 (j+1) (by omega) z (by simpa using c)) (by simpa using h) h3]
end
def ltI (x y:Int):Bool:=decide (x<y)
theorem Xt:TO ltI:=⟨fun x=>by simp[ltI],fun x y z c d=>by simp only[ltI,aY] at*;omega,fun x y=>by simp only[ltI,aY];omega⟩
end Go.Proofs.YtjfpbcmfbnnooaaGreat
