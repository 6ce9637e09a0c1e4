/- Steps of a walk that are found by themselves: tables of the types, one operation, one step of the control. -/
import Derived.Test.YtjfpbcmfbnnooaaGreatGAf
import Derived.Test.YtjfpbcmfbnnooaaGreatGAl
import Derived.Test.YtjfpbcmfbnnooaaGreatGAu
import Derived.ArgAppend
import Derived.Laws.Shifts
import Derived.Laws.BitsAllLaws
set_option linter.unusedSimpArgs false
set_option linter.unusedVariables false
set_option linter.unusedSectionVars false
namespace Go.Proofs.YtjfpbcmfbnnooaaGreat
open Go.RowKit
set_option maxRecDepth 100000
theorem QiA {α:Type _}:∀{l:List (Nat×α)} {i:Nat} {x:α},lk l i=some x→(i,x)∈l
 | (j,y)::l,i,x,h=>by
  rw[XT] at h
  split at h
  ·rename_i e;cases h;subst e;exact aB ..
  ·exact aA _ (QiA h)
noncomputable def tshT:List (Nat×Bool×Nat):=[(0,false,1),(2,false,1),(3,false,1),(4,false,1),(5,false,1),(6,false,1),(8,true,4),(9,false,1),(10,false,1),(11,false,1),(12,false,1),(14,true,2),(15,false,1),(16,false,1),(17,false,1),(19,true,1),(20,false,1),(22,false,1),(24,false,1),(25,false,1),(26,false,1),(28,true,3),(30,false,1),(32,true,2),(33,false,1),(36,false,1),(38,false,1),(41,false,1),(44,false,1),(46,false,1),(48,true,2),(49,false,1),(51,false,1),(52,false,1),(54,true,3),(55,false,1),(59,true,2),(60,false,1),(62,false,1),(63,false,1),(65,false,1),(68,true,3),(70,false,1),(73,false,1),(78,false,1),(80,false,1),(83,false,1),(84,false,1),(86,true,3),(90,true,4),(91,false,1),(93,false,1),(98,true,2),(99,false,1),(103,true,2),(111,false,1),(119,false,1),(121,true,6),(122,false,1),(127,false,1),(128,false,1),(131,false,1),(135,false,1),(139,true,4),(140,false,1),(145,false,1),(147,true,4),(155,false,1),(157,false,1),(159,false,1),(161,true,2),(162,false,1),(164,true,5),(167,false,1),(169,false,1),(172,false,1),(174,true,3),(176,false,1),(178,false,1),(183,true,2),(187,false,1),(194,false,1),(195,false,1),(202,false,1),(204,true,2),(207,true,2),(216,false,1),(218,true,2),(221,false,1),(222,false,1),(225,false,1),(227,true,2),(229,true,3),(236,false,1),(240,false,1),(242,true,7),(251,false,1),(253,true,3),(263,false,1),(264,false,1),(268,false,1),(270,false,1),(272,false,1),(273,false,1),(276,false,1),(279,false,1),(281,false,1),(282,false,1),(286,true,6),(290,true,2),(294,false,1),(296,true,4),(304,false,1),(305,false,1),(306,false,1),(308,false,1),(310,false,1),(313,true,3),(318,false,1),(321,false,1),(332,false,1),(333,false,1),(344,false,1),(346,true,2),(355,false,1),(359,false,1),(364,false,1),(365,false,1),(375,false,1)]
noncomputable def fldT:List (Nat×Nat):=[(512,0),(513,1),(514,2),(515,3),(896,0),(897,1),(1216,0),(1792,0),(1793,1),(1794,2),(2048,0),(2049,1),(3072,0),(3073,1),(3456,0),(3457,1),(3458,2),(3776,0),(3777,1),(4352,0),(4353,1),(4354,2),(5504,0),(5505,1),(5506,2),(5760,0),(5761,1),(5762,2),(5763,3),(6272,0),(6273,1),(6592,0),(6593,1),(7744,0),(7745,3),(7746,5),(8896,0),(8897,1),(8898,2),(8899,3),(9408,0),(9409,1),(9410,2),(9411,3),(10304,0),(10305,1),(10496,0),(10497,2),(10498,3),(10499,4),(11136,0),(11137,1),(11138,2),(11712,0),(11713,1),(13056,0),(13057,1),(13248,0),(13249,1),(13952,0),(13953,1),(14528,0),(14529,1),(14656,0),(14657,1),(14658,2),(15488,0),(15489,5),(15490,6),(16192,0),(16193,1),(16194,2),(18304,0),(18305,2),(18306,3),(18307,4),(18308,5),(18560,0),(18561,1),(18944,0),(18945,1),(18946,2),(18947,3),(20032,0),(20033,1),(20034,2),(22144,0)]
noncomputable def sliT:List (Nat×Nat):=[(22,5),(24,103),(25,9),(26,139),(30,90),(36,32),(46,147),(51,59),(52,68),(62,3),(119,62),(145,207),(159,290),(162,183),(169,253),(187,204),(225,229),(251,4),(272,313),(310,25)]
theorem Qx2:(tshT.all fun p=>decide (tsh Tryz.prog p.1=some p.2))=true:=by kernel_rfl
theorem Qw4:(fldT.all fun p=>decide (fld Tryz.prog (p.1 / 64) (p.1 % 64)=some p.2))=true:=by kernel_rfl
noncomputable def strT:List Nat:=[9,10,11]
noncomputable def strB (T:Nat):Bool:=match Tryz.prog.underlying T with
 | some .string=>true
 | _=>false
theorem QxZ:(strT.all strB)=true:=by kernel_rfl
theorem Qz7 {T:TypeId}(h:inB T strT=true):Tryz.prog.underlying T=some .string:=by
 grind [List.all_eq_true,QxZ,Qio,strB]
noncomputable def sliB (T E:Nat):Bool:=match Tryz.prog.underlying T with
 | some (.slice E')=>Nat.beq E' E
 | _=>false
theorem QxR:(sliT.all fun p=>sliB p.1 p.2)=true:=by kernel_rfl
theorem Kw {T:TypeId}{b:Bool}{n:Nat}(h:lk tshT T=some (b,n)):tsh Tryz.prog T=some (b,n):=ab (au.1 Qx2 _ (QiA h))
theorem QpA {T f o:Nat}(h:lk fldT (Nat.add (Nat.mul 64 T) f)=some o)(a:Nat.blt f 64=true):fld Tryz.prog T f=some o:=by
 have b:=ab (au.1 Qw4 _ (QiA h))
 have a:=aE a
 grind
theorem QiP {T E:TypeId}(h:lk sliT T=some E):Tryz.prog.underlying T=some (.slice E):=by
 have a:=au.1 QxR _ (QiA h)
 grind [sliB,Nat.eq_of_beq_eq_true]
section
variable {A:Amb}{s s':St}{o:Oper}
theorem xlI {d:Nat}{x:Operand}{T ty:TypeId}{pos:String}{af:Array Edge}{g:Option (Nat×Bool)}{q a i j n:Nat}{E:TypeId}{e t:Ty}{xs:List e.Den}{z:e.Den}{b:t.Den}(B:Evl A s x (.ept q a i j))(m:s.tab.ent q=some (.arr E e xs))(w:a=e.wd)(C:xs[i]? =some z)(r:e.flat=true)(h:tsh Tryz.prog T=some (false,n))(u:(leaves e z)[j]? =some (.dat t b))(v:Nat.blt d A.n=true):Does A Tryz.prog ⟨some d,.load T x,ty,pos,af,g⟩ s (s.put d (lf (.dat t b))):=by
 subst w;exact Yt B m C r h u v
theorem QBz {d:Nat}{x:Operand}{T ty:TypeId}{pos:String}{af:Array Edge}{g:Option (Nat×Bool)}{q a i j n:Nat}{E:TypeId}{e:Ty}{xs:List e.Den}{z:e.Den}(v:Evl A s x (.ept q a i j))(h:s.tab.ent q=some (.arr E e xs))(u:a=e.wd)(w:xs[i]? =some z)(m:e.flat=true)(b:tsh Tryz.prog T=some (true,n))(r:Nat.ble (j+n) e.wd=true)(t:Nat.blt d A.n=true):Does A Tryz.prog ⟨some d,.load T x,ty,pos,af,g⟩ s (s.put d (ag (((leaves e z).drop j).take n))):=by
 subst u;exact Qjg v h w m b r t
theorem D_ (h:Does A Tryz.prog o s s':=by
 first
 | ((with_reducible apply Qaf);exact Qa rfl;rfl;exact Kw rfl;rfl;rfl)
 | ((with_reducible apply Jw);exact Qa rfl;exact QpA rfl rfl;rfl;rfl)
 | ((with_reducible apply Hj);rfl;rfl)
 | ((with_reducible apply Uq);rfl;rfl)
 | ((with_reducible apply QaZ);rfl;rfl;rfl)
 | ((with_reducible apply Jy);exact Qa rfl;rfl;exact Kw rfl;rfl;rfl)
 | ((with_reducible apply Qej);(first|exact Qq rfl|exact ZI|exact Evl.str rfl|exact Evl.val);rfl)
 | ((with_reducible apply Wa);(first|exact Qq rfl|exact ZI|exact Evl.str rfl|exact Evl.val);rfl)
 | ((with_reducible apply Qjh);(first|exact Qa rfl|exact Qq rfl);(first|exact Qa rfl|exact Qq rfl);rfl)
 | ((with_reducible apply Jv);(first|exact Qa rfl|exact Qq rfl);(first|exact Qa rfl|exact Qq rfl);rfl)
 | ((with_reducible apply Qa0);(first|exact Qa rfl|exact Qq rfl);(first|exact Qa rfl|exact Qq rfl);rfl)
 | ((with_reducible apply Qjf);(first|exact Qa rfl|exact Qq rfl);(first|exact Qa rfl|exact Qq rfl);rfl)
 | ((with_reducible apply Qjd);(first|exact Qa rfl|exact Qq rfl);(first|exact Qa rfl|exact Qq rfl);rfl)
 | ((with_reducible apply Qjc);(first|exact Qa rfl|exact Qq rfl);(first|exact Qa rfl|exact Qq rfl);rfl)
 | ((with_reducible apply VE);(first|exact Qa rfl|exact Qq rfl);(first|exact Qa rfl|exact Qq rfl);rfl;omega)
 | ((with_reducible apply VG);(first|exact Qa rfl|exact Qq rfl);(first|exact Qa rfl|exact Qq rfl);rfl;omega)
 | ((with_reducible apply Qji);exact Qa rfl;rfl)
 | ((with_reducible apply Qek);exact Qa rfl;(first|exact Qn rfl|exact Evl.ev ZI|exact Evl.ev (Qq rfl));rfl)
 | ((with_reducible apply Qel);exact Qa rfl;(first|exact Qn rfl|exact Evl.ev ZI|exact Evl.ev (Qq rfl));rfl)
 | ((with_reducible apply Qeh);exact Qa rfl;exact Kw rfl;rfl;rfl)
 | ((with_reducible apply QcN);exact Qa rfl;exact Kw rfl;rfl;rfl)
 | ((with_reducible apply QcL);exact Qa rfl;exact QpA rfl rfl;rfl)
 | ((with_reducible apply ZV);exact Qa rfl;exact QpA rfl rfl;rfl;rfl)
 | ((with_reducible apply QbW);exact Qa rfl;rfl;rfl)
 | ((with_reducible apply QoR);exact Qa rfl;rfl;rfl)
 | ((with_reducible apply QgC);exact Qa rfl;rfl;rfl;exact QiP rfl)
 | ((with_reducible apply Does.len);exact Qa rfl;rfl;exact QiP rfl)
 | ((with_reducible apply Hi);(first|exact Qa rfl|exact Evl.str rfl);(first|exact Qa rfl|exact Evl.str rfl);rfl)
 | ((with_reducible apply QgE);(first|exact Qa rfl|exact Evl.str rfl);(first|exact Qa rfl|exact Evl.str rfl);rfl)
 | ((with_reducible apply ZA);exact Qa rfl;rfl;(first|exact Qn rfl|exact Evl.ev (Qq rfl)|exact Evl.ev ZI|exact Evl.ev (Evl.str rfl)|exact Evl.ev (QJ _ rfl));rfl;exact Kw rfl;rfl)
 | ((with_reducible apply Us);exact Qa rfl;(first|exact Qa rfl|exact Qq rfl);exact QiP rfl;exact Kw rfl;rfl;omega;assumption)
 | ((with_reducible apply QcM);(first|exact Qa rfl|exact Evl.str rfl);(first|exact Qa rfl|exact Qq rfl);rfl;exact Qz7 rfl;omega;assumption)
 | ((with_reducible apply ZH);exact Qa rfl;rfl;(first|exact Qa rfl|exact Qq rfl);exact QiP rfl;exact Kw rfl;rfl;omega;(first|omega|(simp only[aD];omega)))
 | ((with_reducible apply xlI);exact Qa rfl;rfl;rfl;assumption;rfl;exact Kw rfl;rfl;rfl)
 | ((with_reducible apply QBz);exact Qa rfl;rfl;rfl;assumption;rfl;exact Kw rfl;rfl;rfl)
 | ((with_reducible apply Q8);exact Qa rfl;exact Qa rfl;rfl)
 | ((with_reducible apply QP);exact Qa rfl;exact Qa rfl;rfl)):Does A Tryz.prog o s s':=h
theorem xbx {T ty:TypeId}{d:Nat}{x:Operand}{pos:String}{af:Array Edge}{ops:Array Oper}{l:List Oper}{Q:Exit→St→Prop}(t:Nat){b:Bool}{ls:List LV}(k:AL A Tryz.prog ops l Q (s.new d t (.ptr t 0) (.box T ls)))(m:Ev A s x (b,ls):=by first|exact Qn rfl|exact Evl.ev (Qq rfl)|exact Evl.ev ZI|exact Evl.ev (Evl.str rfl))(h:Zj s.tab ls=true:=by rfl)(j:Nat.blt d A.n=true:=by rfl)(a:Fresh s t:=by exact Fresh.of rfl)(e:A.k0≤t:=by exact nlr rfl):AL A Tryz.prog ops (⟨some d,.box T x,ty,pos,af,none⟩::l) Q s:=lc (Qqz t m h j a e) k
theorem xal {T ty:TypeId}{d:Nat}{pos:String}{af:Array Edge}{g:Option (Nat×Bool)}(k:Nat)(t:Ty){z:Value}(j:zer Tryz.prog T=some z)(e:z.cells.toList=t.zeros:=by rfl)(h:Nat.blt d A.n=true:=by rfl)(a:Fresh s k:=by exact Fresh.of rfl)(b:A.k0≤k:=by exact nlr rfl):Does A Tryz.prog ⟨some d,.alloc T,ty,pos,af,g⟩ s (s.new d k (.ptr k 0) (.box T t.zlv)):=XW k t j e h a b
theorem e1_ {i:Nat}{b:Bool}{ls:List LV}(h:lk s.tm i=some (.cm b ls):=by rfl):EvL A s [.tmp i] [(b,ls)]:=⟨_,_,rfl,Qn h,rfl⟩
theorem e2_ {i j:Nat}{b c:Bool}{ls a:List LV}(h:lk s.tm i=some (.cm b ls):=by rfl)(k:lk s.tm j=some (.cm c a):=by rfl):EvL A s [.tmp i,.tmp j] [(b,ls),(c,a)]:=⟨_,_,rfl,Qn h,_,_,rfl,Qn k,rfl⟩
theorem Qy5 {P:Program}{c:Code}{Q:Exit→St→Prop}(h:AC A P c Q s):AC A P c Q s:=h
theorem wI {G G':Prop}(h:G'→G:=by
 first
 | ((with_reducible apply lm);rfl;rfl)
 | ((with_reducible apply lgn);rfl;rfl;rfl)
 | ((with_reducible apply lc);exact D_)
 | ((with_reducible apply lgy);rfl;rfl;exact D_)
 | (with_reducible exact QtJ)
 | (with_reducible exact Qx8)
 | (with_reducible exact YC)
 | ((with_reducible apply Qqu);exact Qa rfl)
 | ((with_reducible apply Qqt);exact Qa rfl)
 | (with_reducible exact Qqv)
 | (with_reducible exact Qqs)
 | (with_reducible exact Qgy)
 | (with_reducible exact AC.skip)
 | (with_reducible exact QtH)
 | (with_reducible exact Qe)
 | exact Qy5):G'→G:=h
theorem w_ {G G':Prop}(k:G')(h:G'→G:=by exact wI):G:=h k
end
def rlm:Nat→List Nat→List Nat
 | _,[]=>[]
 | b,r::rs=>Nat.sub (Nat.sub b 1) r::rlm (Nat.mul 2 b) rs
def QkU (l:List Oper)(plan:List Item)(deps:List (List Nat)):Bool:=Nat.beq l.length plan.length&&(QeE l.toArray deps plan.length&&Qf1 plan deps&&Qbx l.toArray plan.length)
def ActsH (A:Amb)(P:Program)(l0:List Oper)(plan:List Item)(deps:List (List Nat))(s0:St):List Oper→List Item→Nat→Prop
 | o::l,it::p,i=>(∀s,At plan deps s0 i s→Acts A P l0.toArray o s (Qa6 s it))∧ActsH A P l0 plan deps s0 l p (i+1)
 | [],_,_=>QkU l0 plan deps=true
 | _::_,[],_=>QkU l0 plan deps=true
section
variable {A:Amb}{P:Program}{s s' s0:St}{Q:Exit→St→Prop}{l0 l:List Oper}{o:Oper}{it:Item}{p plan:List Item}{deps:List (List Nat)}{i:Nat}
theorem ActsH.to:∀{l:List Oper} {p:List Item} {i:Nat},ActsH A P l0 plan deps s0 l p i→ActsL A P l0.toArray plan deps s0 l p i∧QkU l0 plan deps=true
 | _::_,_::_,_,h=>⟨⟨h.1,(ActsH.to h.2).1⟩,(ActsH.to h.2).2⟩
 | [],_,_,h=>⟨trivial,h⟩
 | _::_,[],_,h=>⟨trivial,h⟩
theorem Qym {q:Nat}(a:At plan deps s0 i s)(h:(se plan deps s0 i q).isSome=true):(s.tab.ent q).isSome=true:=by
 obtain ⟨x,b⟩:=bg.1 h
 rw[a.n _ b];rfl
theorem DH_ (h:Does A Tryz.prog o s s':=by
 first
 | ((with_reducible apply Qek);exact At.v ‹_› rfl;(first|exact At.w ‹_› rfl|exact Evl.ev ZI|exact Evl.ev (Qq rfl));rfl)
 | ((with_reducible apply Qel);exact At.v ‹_› rfl;(first|exact At.w ‹_› rfl|exact Evl.ev ZI|exact Evl.ev (Qq rfl));rfl)
 | ((with_reducible apply Qaf);exact At.v ‹_› rfl;exact At.n ‹_› _ rfl;exact Kw rfl;rfl;rfl)
 | ((with_reducible apply Jy);exact At.v ‹_› rfl;exact At.n ‹_› _ rfl;exact Kw rfl;rfl;rfl)
 | ((with_reducible apply Hj);exact At.k ‹_› rfl;rfl)
 | ((with_reducible apply Uq);exact At.k ‹_› rfl;rfl)
 | ((with_reducible apply QaZ);exact At.k ‹_› rfl;rfl;rfl)
 | ((with_reducible apply Qej);(first|exact Qq rfl|exact ZI|exact Evl.str rfl|exact Evl.val);rfl)
 | ((with_reducible apply Wa);(first|exact Qq rfl|exact ZI|exact Evl.str rfl|exact Evl.val);rfl)
 | ((with_reducible apply Qeh);exact At.v ‹_› rfl;exact Kw rfl;rfl;rfl)
 | ((with_reducible apply QcN);exact At.v ‹_› rfl;exact Kw rfl;rfl;rfl)
 | ((with_reducible apply QcL);exact At.v ‹_› rfl;exact QpA rfl rfl;rfl)
 | ((with_reducible apply Does.len);exact At.v ‹_› rfl;rfl;exact QiP rfl)
 | ((with_reducible apply QgC);exact At.v ‹_› rfl;exact At.n ‹_› _ rfl;rfl;exact QiP rfl)
 | ((with_reducible apply Qjh);(first|exact At.v ‹_› rfl|exact Qq rfl);(first|exact At.v ‹_› rfl|exact Qq rfl);rfl)
 | ((with_reducible apply Jv);(first|exact At.v ‹_› rfl|exact Qq rfl);(first|exact At.v ‹_› rfl|exact Qq rfl);rfl)
 | ((with_reducible apply Qa0);(first|exact At.v ‹_› rfl|exact Qq rfl);(first|exact At.v ‹_› rfl|exact Qq rfl);rfl)
 | ((with_reducible apply Qjf);(first|exact At.v ‹_› rfl|exact Qq rfl);(first|exact At.v ‹_› rfl|exact Qq rfl);rfl)
 | ((with_reducible apply Qjd);(first|exact At.v ‹_› rfl|exact Qq rfl);(first|exact At.v ‹_› rfl|exact Qq rfl);rfl)
 | ((with_reducible apply Qjc);(first|exact At.v ‹_› rfl|exact Qq rfl);(first|exact At.v ‹_› rfl|exact Qq rfl);rfl)
 | ((with_reducible apply VE);(first|exact At.v ‹_› rfl|exact Qq rfl);(first|exact At.v ‹_› rfl|exact Qq rfl);rfl;omega)
 | ((with_reducible apply VG);(first|exact At.v ‹_› rfl|exact Qq rfl);(first|exact At.v ‹_› rfl|exact Qq rfl);rfl;omega)
 | ((with_reducible apply Qji);exact At.v ‹_› rfl;rfl)
 | ((with_reducible apply Hi);(first|exact At.v ‹_› rfl|exact Evl.str rfl);(first|exact At.v ‹_› rfl|exact Evl.str rfl);rfl)
 | ((with_reducible apply QgE);(first|exact At.v ‹_› rfl|exact Evl.str rfl);(first|exact At.v ‹_› rfl|exact Evl.str rfl);rfl)
 | ((with_reducible apply Q8);exact At.v ‹_› rfl;exact At.v ‹_› rfl;rfl)
 | ((with_reducible apply QP);exact At.v ‹_› rfl;exact At.v ‹_› rfl;rfl)
 | ((with_reducible apply Jw);exact At.v ‹_› rfl;exact QpA rfl rfl;exact Qym ‹_› rfl;rfl)
 | ((with_reducible apply QbW);exact At.v ‹_› rfl;exact Qym ‹_› rfl;rfl)
 | ((with_reducible apply QcM);(first|exact At.v ‹_› rfl|exact Evl.str rfl);(first|exact At.v ‹_› rfl|exact Qq rfl);rfl;exact Qz7 rfl;omega;assumption)
 | ((with_reducible apply Us);exact At.v ‹_› rfl;(first|exact At.v ‹_› rfl|exact Qq rfl);exact QiP rfl;exact Kw rfl;rfl;omega;assumption)
 | ((with_reducible apply ZA);exact At.v ‹_› rfl;exact At.n ‹_› _ rfl;(first|exact At.w ‹_› rfl|exact Evl.ev (Qq rfl)|exact Evl.ev ZI);rfl;exact Kw rfl;rfl)):Does A Tryz.prog o s s':=h
theorem zz (h:∀s,At plan deps s0 i s→Acts A P l0.toArray o s (Qa6 s it))(k:ActsH A P l0 plan deps s0 l p (i+1)):ActsH A P l0 plan deps s0 (o::l) (it::p) i:=⟨h,k⟩
theorem zI (h:∀s,At plan deps s0 i s→Acts A Tryz.prog l0.toArray o s (Qa6 s it):=by
 first
 | ((with_reducible apply dxm);rfl;rfl)
 | ((with_reducible apply dxf);exact QpA rfl rfl;rfl;rfl;rfl)
 | ((with_reducible apply dxl);exact Kw rfl;rfl;rfl;rfl;rfl;rfl)
 | ((with_reducible apply dxt);rfl;rfl)
 | ((with_reducible apply dxn);rfl;rfl;rfl)
 | ((with_reducible apply dxa);exact Kw rfl;rfl;rfl;rfl;rfl)
 | ((with_reducible apply dxo);rfl;rfl;rfl)
 | (intro _ _;(apply ac);exact DH_;rfl)
 | (intro _ _;(apply day);rfl;exact At.k ‹_› rfl;exact DH_;rfl)
 | (intro _ _;(apply QtL);rfl;rfl;exact At.k ‹_› rfl;rfl;rfl)):ActsH A Tryz.prog l0 plan deps s0 l p (i+1)→ActsH A Tryz.prog l0 plan deps s0 (o::l) (it::p) i:=fun k=>⟨h,k⟩
theorem z_ {G G':Prop}(k:G')(h:G'→G:=by exact zI):G:=h k
theorem zN (h:QkU l0 plan deps=true:=by kernel_rfl):ActsH A Tryz.prog l0 plan deps s0 [] [] i:=h
theorem dW {id:Nat}{y:Code}(plan:List Item)(e:List Nat)(H:ActsH A Tryz.prog l plan (dms (rlm 1 e)) s0 l plan 0)(k:AC A Tryz.prog y Q (stD plan s0 fun _=>true)):AC A Tryz.prog (.seq (.region id l.toArray true) y) Q s0:=by
 obtain ⟨b,a⟩:=H.to
 rw[QkU,aM] at a
 exact dw plan _ mixed (aZ a.1) a.2 b k
theorem dV {id:Nat}(plan:List Item)(e:List Nat)(H:ActsH A Tryz.prog l plan (dms (rlm 1 e)) s0 l plan 0)(k:Q .normal (stD plan s0 fun _=>true)):AC A Tryz.prog (.region id l.toArray true) Q s0:=by
 obtain ⟨b,a⟩:=H.to
 rw[QkU,aM] at a
 exact dv plan _ mixed (aZ a.1) a.2 b k
theorem dZ {id:Nat}{y:Code}{b:Exit→St→Prop}(plan:List Item)(h:List Nat)(H:ActsH A Tryz.prog l plan (dms (rlm 1 h)) s0 l plan 0)(k:AC A Tryz.prog y b (stD plan s0 fun _=>true)):AC A Tryz.prog (.region id l.toArray true) (Qab (AC A Tryz.prog y b) Q) s0:=by
 obtain ⟨e,a⟩:=H.to
 rw[QkU,aM] at a
 exact dz plan _ mixed (aZ a.1) a.2 e k
end
section
variable {A:Amb}{s:St}{f:FuncId}{xs:List Operand}{tys:Array TypeId}{args:List (Bool×List LV)}{d k:Nat}{ty T:TypeId}{pos:String}{af:Array Edge}{g:Option (Nat×Bool)}{pv:PV}{U U':Tab}{x y:Operand}
theorem evN:EvL A s [] []:=rfl
theorem evC {c:Bool×List LV}{cs:List (Bool×List LV)}(h:Ev A s x c)(k:EvL A s xs cs):EvL A s (x::xs) (c::cs):=⟨_,_,rfl,h,k⟩
theorem ebN:EvLB A s [] []:=rfl
theorem ebC {c:Bool×List LV}{cs:List (Bool×List LV)}(h:EvB A s x c)(k:EvLB A s xs cs):EvLB A s (x::xs) (c::cs):=⟨_,_,rfl,h,k⟩
theorem abN {e:Ty}:AbsL U e [] [] []:=⟨rfl,rfl⟩
theorem abC {e:Ty}{c:Bool×List LV}{cs:List (Bool×List LV)}{z:e.Den}{zs:List e.Den}{a b:List Nat}(h:Abs U e c.2 z a)(k:AbsL U e cs zs b):AbsL U e (c::cs) (z::zs) (a++b):=⟨_,_,_,_,rfl,h,k,rfl⟩
theorem dK (e:FC Tryz.prog f args [] 0 (QK pv))(a:Qf Tryz.prog f)(b:EvL A s xs args:=by repeat' first|exact evN|exact Qn rfl|exact At.w ‹_› rfl|exact Evl.ev (Qq rfl)|exact Evl.ev ZI|exact Evl.ev (Evl.str rfl)|apply evC)(j:pv.tags=[]:=by rfl)(h:Nat.blt d A.n=true:=by rfl):Does A Tryz.prog ⟨some d,.call ⟨.value (.func f),xs.toArray,tys⟩,ty,pos,af,g⟩ s (s.put d pv):=UV e a b j h
theorem dB_ (h:FC Tryz.prog f args [] 0 (QK pv))(a:Qf Tryz.prog f)(e:EvLB A s xs args:=by repeat' first|exact ebN|exact Ev.b (Qn rfl)|exact Ev.b (At.w ‹_› rfl)|exact Ev.b (Evl.ev (Qq rfl))|exact Ev.b (Evl.ev ZI)|exact Ev.b (Evl.ev (Evl.str rfl))|exact QhX (Qa rfl) rfl|exact QhX (At.v ‹_› rfl) (At.n ‹_› _ rfl)|apply ebC)(q:pv.tags=[]:=by rfl)(j:pv.fl=true:=by rfl)(m:Nat.blt d A.n=true:=by rfl):Does A Tryz.prog ⟨some d,.call ⟨.value (.func f),xs.toArray,tys⟩,ty,pos,af,g⟩ s (s.put d pv):=Ky h a e q j m
theorem dO (t:Nat){E:TypeId}{e:Ty}{zs:List e.Den}(m:FC Tryz.prog f args [] 0 (Xv E e zs))(h:Qf Tryz.prog f)(j:EvL A s xs args:=by repeat' first|exact evN|exact Qn rfl|exact At.w ‹_› rfl|exact Evl.ev (Qq rfl)|exact Evl.ev ZI|exact Evl.ev (Evl.str rfl)|apply evC)(q:Nat.blt d A.n=true:=by rfl)(a:Fresh s t:=by first|exact Fresh.of rfl|exact At.fr ‹_› _ rfl)(b:A.k0≤t:=by exact nlr rfl):Does A Tryz.prog ⟨some d,.call ⟨.value (.func f),xs.toArray,tys⟩,ty,pos,af,g⟩ s (s.mk_ d t [] E e zs):=Qee t m h j q a b
theorem dOB (t:Nat){E:TypeId}{e:Ty}{zs:List e.Den}(q:FC Tryz.prog f args [] 0 (Xv E e zs))(j:Qf Tryz.prog f)(m:EvLB A s xs args:=by repeat' first|exact ebN|exact Ev.b (Qn rfl)|exact Ev.b (At.w ‹_› rfl)|exact Ev.b (Evl.ev (Qq rfl))|exact Ev.b (Evl.ev ZI)|exact Ev.b (Evl.ev (Evl.str rfl))|exact QhX (Qa rfl) rfl|exact QhX (At.v ‹_› rfl) (At.n ‹_› _ rfl)|apply ebC)(r:Nat.blt d A.n=true:=by rfl)(a:Fresh s t:=by first|exact Fresh.of rfl|exact At.fr ‹_› _ rfl)(h:A.k0≤t:=by exact nlr rfl):Does A Tryz.prog ⟨some d,.call ⟨.value (.func f),xs.toArray,tys⟩,ty,pos,af,g⟩ s (s.mk_ d t [] E e zs):=QcK t q j m r a h
theorem dG (n:Nat)(m:FC Tryz.prog f args [] 0 (Is pv U))(h:Qf Tryz.prog f)(j:EvL A s xs args:=by repeat' first|exact evN|exact Qn rfl|exact At.w ‹_› rfl|exact Evl.ev (Qq rfl)|exact Evl.ev ZI|exact Evl.ev (Evl.str rfl)|apply evC)(a:YI pv U=true:=by rfl)(q:Nat.blt d A.n=true:=by rfl)(b:FrL s n (ZS U):=by repeat' first|exact trivial|exact Fresh.of rfl|exact At.fr ‹_› _ rfl|apply And.intro)(e:A.k0≤n:=by exact nlr rfl):Does A Tryz.prog ⟨some d,.call ⟨.value (.func f),xs.toArray,tys⟩,ty,pos,af,g⟩ s (s.back d n pv U):=Qad n m h j a q b e
theorem dP (n:Nat)(ρ:List (Nat×Nat))(q:FC Tryz.prog f args U k (Is pv U'))(h:Qf Tryz.prog f)(m:EvL A s xs (args.map fun c=>(c.1,c.2.map (LV.ren (rn ρ)))):=by repeat' first|exact evN|exact Qn rfl|exact At.w ‹_› rfl|exact Evl.ev (Qq rfl)|exact Evl.ev ZI|exact Evl.ev (Evl.str rfl)|apply evC)(j:HasE s ρ U:=by repeat' first|exact rfl|exact trivial|exact At.n ‹_› _ rfl|apply And.intro)(e:(Wz (U.map fun p=>rn ρ p.1)&&YI pv U'&&Wz (U'.map fun p=>sg ρ k n p.1)&&QjY U U' k&&Nat.blt d A.n)=true:=by rfl)(a:FrK s n k (ZS U'):=by repeat' first|exact trivial|exact Fresh.of rfl|exact At.fr ‹_› _ rfl|apply And.intro)(b:A.k0≤n:=by exact nlr rfl):Does A Tryz.prog ⟨some d,.call ⟨.value (.func f),xs.toArray,tys⟩,ty,pos,af,g⟩ s (s.backP d (sg ρ k n) (U.map fun p=>rn ρ p.1) pv U'):=Qae n ρ q h m j e a b
theorem dA {q a:Nat}{E:TypeId}{e:Ty}{us ys:List e.Den}(t:Nat)(r:X1 Tryz.prog E e.wd=true)(B:Evl A s x (.ref q):=by first|exact Qa rfl|exact At.v ‹_› rfl)(w:s.tab.ent q=some (.arr E e us):=by first|exact rfl|exact At.n ‹_› _ rfl)(C:Evl A s y (.ref a):=by first|exact Qa rfl|exact At.v ‹_› rfl)(b:s.tab.ent a=some (.arr E e ys):=by first|exact rfl|exact At.n ‹_› _ rfl)(m:Nat.beq q a=false:=by rfl)(u:Tryz.prog.underlying T=some (.slice E):=by exact QiP rfl)(hb:us.length+ys.length≤1073741824:=by first|omega|(simp only[ah,aH,ap,av,aC];omega)|(simp only[ah,aX,ap,av,aC];omega))(z:Nat.blt d A.n=true:=by rfl)(h:Fresh s t:=by first|exact Fresh.of rfl|exact At.fr ‹_› _ rfl)(j:A.k0≤t:=by exact nlr rfl):Does A Tryz.prog ⟨some d,.call {callee:= .builtin .append,args:= #[x,y],argTypes:= #[T,T]},ty,pos,af,g⟩ s (s.mk_ d t [q,a] E e (us++ys)):=Qja t B w C b m u r hb z h j
theorem dBs (t:Nat){E:TypeId}{e:Ty}{n:Nat}{a:Array (Nat×Operand)}{h:List (Bool×List LV)}{us:List e.Den}{b:List Nat}{B:Bool}{z:Value}(G:zer Tryz.prog E=some z)(D:Tryz.prog.underlying T=some (.slice E):=by exact QiP rfl)(C:tsh Tryz.prog E=some (B,e.wd):=by exact Kw rfl)(r:a.toList.map (·.1)=List.range n:=by rfl)(hv:EvL A s (a.toList.map (·.2)) h:=by repeat' first|exact evN|exact Qn rfl|exact At.w ‹_› rfl|exact Evl.ev (Qq rfl)|exact Evl.ev ZI|exact Evl.ev (Evl.str rfl)|apply evC)(q:∀c∈h,Zj s.tab c.2=true:=by exact au.1 rfl)(hab:AbsL s.tab e h us b:=by repeat' first|exact abN|exact ⟨rfl,rfl⟩|apply abC)(v:b.Nodup:=by decide)(u:Nat.ble (n*e.wd) 16777216=true:=by rfl)(F:Nat.blt d A.n=true:=by rfl)(j:Fresh s t:=by first|exact Fresh.of rfl|exact At.fr ‹_› _ rfl)(m:A.k0≤t:=by exact nlr rfl):Does A Tryz.prog ⟨some d,.buildSlice T n a,ty,pos,af,g⟩ s (s.mk_ d t b E e us):=W6 t D C G r hv q hab v u F j m
end
section
variable {A:Amb}{s s1:St}{Q:Exit→St→Prop}{ops:Array Oper}{l:List Oper}{c x y:Code}{fn:Func}{k:Nat}{O O':PV→Tab→Prop}{pv pv0:PV}{T:Tab}
theorem alL (t:Nat){E:TypeId}{e:Ty}{u:List e.Den}(k:u.length≤9223372036854775807→AL A Tryz.prog ops l Q s)(h:Evl A s (.tmp t) (.dat (.sl E e) u):=by exact Qa rfl):AL A Tryz.prog ops l Q s:=AL.fact (QrM h) k
theorem alS (t:Nat){u:ByteArray}(k:u.size≤9223372036854775807→AL A Tryz.prog ops l Q s)(h:Evl A s (.tmp t) (dS u):=by exact Qa rfl):AL A Tryz.prog ops l Q s:=AL.fact (Qpu h) k
theorem alI (t:Nat){n:Int}(k: -9223372036854775808≤n∧n≤9223372036854775807→AL A Tryz.prog ops l Q s)(h:Evl A s (.tmp t) (dI n):=by exact Qa rfl):AL A Tryz.prog ops l Q s:=AL.fact (QjL h) k
theorem acI (t:Nat){n:Int}(k: -9223372036854775808≤n∧n≤9223372036854775807→AC A Tryz.prog c Q s)(h:Evl A s (.tmp t) (dI n):=by exact Qa rfl):AC A Tryz.prog c Q s:=AC.fact (QjL h) k
theorem acG (t i:Nat){ls:List LV}{n:Int}(k: -9223372036854775808≤n∧n≤9223372036854775807→AC A Tryz.prog c Q s)(h:Ev A s (.tmp t) (true,ls):=by exact Qn rfl)(hi:ls[i]? =some (dI n):=by rfl):AC A Tryz.prog c Q s:=AC.fact (QuO h hi) k
theorem cd_ {z:Operand}{p:Prop}{a:Decidable p}(e: @decide p a=false→¬p→AC A Tryz.prog y Q s)(j: @decide p a=true→p→AC A Tryz.prog x Q s)(b:Evl A s z (dB (@decide p a)):=by exact Qa rfl):AC A Tryz.prog (.cond z x y) Q s:=QaV b (fun h=>j h (ab h)) fun h=>e h (aa h)
theorem cn_ {z:Operand}{p:Prop}{a:Decidable p}(e:(!@decide p a)=false→p→AC A Tryz.prog y Q s)(j:(!@decide p a)=true→¬p→AC A Tryz.prog x Q s)(b:Evl A s z (dB (!@decide p a)):=by exact Qa rfl):AC A Tryz.prog (.cond z x y) Q s:=QaV b (fun h=>j h (QG h)) fun h=>e h (Qz h)
theorem cb_ {z:Operand}{b:Bool}(e:b=false→AC A Tryz.prog y Q s)(h:b=true→AC A Tryz.prog x Q s)(a:Evl A s z (dB b):=by exact Qa rfl):AC A Tryz.prog (.cond z x y) Q s:=QaV a h e
theorem rs_ {r:ResultVar}{d:Bool×List LV}(h:Rs A Tryz.prog s r d:=by first|exact UH rfl|exact Rs.cell rfl rfl (Kw rfl) rfl|exact QqL rfl rfl (Kw rfl)):Rs A Tryz.prog s r d:=h
theorem re_ (h:Res A Tryz.prog fn s pv:=by first|exact Res.one rfl rs_|exact XR rfl rs_ rs_|exact QoT rfl rs_ rs_ rs_|exact QqJ rfl rs_ rs_ rs_ rs_|exact QqK rfl):Res A Tryz.prog fn s pv:=h
theorem fe_ (a:O=QK pv)(h:Res A Tryz.prog fn s pv:=by exact re_)(b:pv.tags=[]:=by rfl):fin A Tryz.prog fn (Qah O k) .ret s:=by subst a;exact Ki h rfl b
theorem fqI {u v:Int}(a:O=QK (lf (dI v)))(e:u=v)(h:Res A Tryz.prog fn s (lf (dI u)):=by exact re_):fin A Tryz.prog fn (Qah O k) .ret s:=by subst a;subst e;exact Ki h rfl rfl
theorem fqB {u v:Bool}(a:O=QK (lf (dB v)))(e:u=v)(h:Res A Tryz.prog fn s (lf (dB u)):=by exact re_):fin A Tryz.prog fn (Qah O k) .ret s:=by subst a;subst e;exact Ki h rfl rfl
theorem fqS {u v:ByteArray}(a:O=QK (lf (dS v)))(e:u=v)(h:Res A Tryz.prog fn s (lf (dS u)):=by exact re_):fin A Tryz.prog fn (Qah O k) .ret s:=by subst a;subst e;exact Ki h rfl rfl
theorem fq_ {t:Ty}{u v:t.Den}(a:O=QK (lf (.dat t v)))(e:u=v)(h:Res A Tryz.prog fn s (lf (.dat t u)):=by exact re_):fin A Tryz.prog fn (Qah O k) .ret s:=by subst a;subst e;exact Ki h rfl rfl
theorem fr_ (a:O=QK pv)(h:Res A Tryz.prog fn s pv0:=by exact re_)(e:pv0=pv)(b:pv.tags=[]:=by rfl):fin A Tryz.prog fn (Qah O k) .ret s:=by subst a;exact Ki h e b
theorem fo_ {q:Nat}{E:TypeId}{e:Ty}{u v:List e.Den}(a:O=Xv E e v)(j:u=v)(h:Res A Tryz.prog fn s (lf (.ref q)):=by exact re_)(b:s.tab.ent q=some (.arr E e u):=by rfl):fin A Tryz.prog fn (Qah O 0) .ret s:=by subst a;exact QuQ h b j
theorem fi_ (ρ:List (Nat×Nat))(j:O=Is pv T)(b:HasE ⟨[],s.tab⟩ ρ T)(a:Res A Tryz.prog fn s pv0:=by exact re_)(h0:pv0=pv.ren (rn ρ):=by rfl)(e:Wz (T.map fun x=>rn ρ x.1)=true:=by rfl)(h:idB ρ k=true:=by rfl):fin A Tryz.prog fn (Qah O k) .ret s:=by subst j;exact Qw3 pv T ρ a h0 b e h
theorem lp0 (n:Nat)(F:Nat→St)(j:Wk A s (F 0))(a:∀k,k≤n→AC A Tryz.prog c (Qab (fun s1=>k+1≤n∧Wk A s1 (F (k+1))) Q) (F k)):AC A Tryz.prog (.loop c) Q s:=
 Qu (fun m s=>∃k,k≤n∧m=n - k∧s=F k) ⟨0,aL _,rfl,rfl⟩ j (by
  rintro m s ⟨k,b,rfl,rfl⟩
  refine (a k b).mono fun e s h=> ?_
  cases e <;> first|exact h|exact ⟨n - (k+1),_,by have:=h.1;omega,h.2,k+1,h.1,rfl,rfl⟩)
theorem lpK (n:Nat)(J:Nat→Prop)(F:Nat→St)(q:J 0)(r:Wk A s (F 0))(a:∀k,k≤n→J k→AC A Tryz.prog c (Qab (fun s1=>k+1≤n∧J (k+1)∧Wk A s1 (F (k+1))) Q) (F k)):AC A Tryz.prog (.loop c) Q s:=
 Qu (fun m s=>∃k,k≤n∧m=n - k∧J k∧s=F k) ⟨0,aL _,rfl,q,rfl⟩ r (by
  rintro m s ⟨k,j,rfl,b,rfl⟩
  refine (a k j b).mono fun e s h=> ?_
  cases e <;> first|exact h|exact ⟨n - (k+1),_,by have:=h.1;omega,h.2.2,k+1,h.1,rfl,h.2.1,rfl⟩)
theorem l0_ {n:Nat}{a:St}(w:Wk A s1 a)(h:k+1≤n:=by omega):k+1≤n∧Wk A s1 a:=⟨h,w⟩
theorem lK_ {n:Nat}{J:Prop}{a:St}(j:J)(w:Wk A s1 a)(h:k+1≤n:=by omega):k+1≤n∧J∧Wk A s1 a:=⟨h,j,w⟩
end
@[reducible] def bx (q E:Nat) (cs:List LV):Nat×Option Ent:=(q,some (.box E cs))
@[reducible] def ar (q E:Nat) (e:Ty) (xs:List e.Den):Nat×Option Ent:=(q,some (.arr E e xs))
@[reducible] def i2 (d:Nat) (a0 a1:PV) (l:List Item):List Item:=io (d) a0::io (Nat.succ (d)) a1::l
@[reducible] def i3 (d:Nat) (a0 a1 a2:PV) (l:List Item):List Item:=io (d) a0::io (Nat.succ (d)) a1::io (Nat.succ (Nat.succ (d))) a2::l
@[reducible] def i4 (d:Nat) (a0 a1 a2 a3:PV) (l:List Item):List Item:=io (d) a0::io (Nat.succ (d)) a1::io (Nat.succ (Nat.succ (d))) a2::io (Nat.succ (Nat.succ (Nat.succ (d)))) a3::l
@[reducible] def i5 (d:Nat) (a0 a1 a2 a3 a4:PV) (l:List Item):List Item:=io (d) a0::io (Nat.succ (d)) a1::io (Nat.succ (Nat.succ (d))) a2::io (Nat.succ (Nat.succ (Nat.succ (d)))) a3::io (Nat.succ (Nat.succ (Nat.succ (Nat.succ (d))))) a4::l
@[reducible] def i6 (d:Nat) (a0 a1 a2 a3 a4 a5:PV) (l:List Item):List Item:=io (d) a0::io (Nat.succ (d)) a1::io (Nat.succ (Nat.succ (d))) a2::io (Nat.succ (Nat.succ (Nat.succ (d)))) a3::io (Nat.succ (Nat.succ (Nat.succ (Nat.succ (d))))) a4::io (Nat.succ (Nat.succ (Nat.succ (Nat.succ (Nat.succ (d)))))) a5::l
@[reducible] def i7 (d:Nat) (a0 a1 a2 a3 a4 a5 a6:PV) (l:List Item):List Item:=io (d) a0::io (Nat.succ (d)) a1::io (Nat.succ (Nat.succ (d))) a2::io (Nat.succ (Nat.succ (Nat.succ (d)))) a3::io (Nat.succ (Nat.succ (Nat.succ (Nat.succ (d))))) a4::io (Nat.succ (Nat.succ (Nat.succ (Nat.succ (Nat.succ (d)))))) a5::io (Nat.succ (Nat.succ (Nat.succ (Nat.succ (Nat.succ (Nat.succ (d))))))) a6::l
@[reducible] def i8 (d:Nat) (a0 a1 a2 a3 a4 a5 a6 a7:PV) (l:List Item):List Item:=io (d) a0::io (Nat.succ (d)) a1::io (Nat.succ (Nat.succ (d))) a2::io (Nat.succ (Nat.succ (Nat.succ (d)))) a3::io (Nat.succ (Nat.succ (Nat.succ (Nat.succ (d))))) a4::io (Nat.succ (Nat.succ (Nat.succ (Nat.succ (Nat.succ (d)))))) a5::io (Nat.succ (Nat.succ (Nat.succ (Nat.succ (Nat.succ (Nat.succ (d))))))) a6::io (Nat.succ (Nat.succ (Nat.succ (Nat.succ (Nat.succ (Nat.succ (Nat.succ (d)))))))) a7::l
@[reducible] def i9 (d:Nat) (a0 a1 a2 a3 a4 a5 a6 a7 a8:PV) (l:List Item):List Item:=io (d) a0::io (Nat.succ (d)) a1::io (Nat.succ (Nat.succ (d))) a2::io (Nat.succ (Nat.succ (Nat.succ (d)))) a3::io (Nat.succ (Nat.succ (Nat.succ (Nat.succ (d))))) a4::io (Nat.succ (Nat.succ (Nat.succ (Nat.succ (Nat.succ (d)))))) a5::io (Nat.succ (Nat.succ (Nat.succ (Nat.succ (Nat.succ (Nat.succ (d))))))) a6::io (Nat.succ (Nat.succ (Nat.succ (Nat.succ (Nat.succ (Nat.succ (Nat.succ (d)))))))) a7::io (Nat.succ (Nat.succ (Nat.succ (Nat.succ (Nat.succ (Nat.succ (Nat.succ (Nat.succ (d))))))))) a8::l
theorem wI2 {G G1 G':Prop}(h1:G1→G:=by exact wI)(h2:G'→G1:=by exact wI):G'→G:=fun k=>h1 (h2 k)
theorem wI4 {G G1 G':Prop}(h1:G1→G:=by exact wI2)(h2:G'→G1:=by exact wI2):G'→G:=fun k=>h1 (h2 k)
theorem wI8 {G G1 G':Prop}(h1:G1→G:=by exact wI4)(h2:G'→G1:=by exact wI4):G'→G:=fun k=>h1 (h2 k)
theorem zI2 {G G1 G':Prop}(h1:G1→G:=by exact zI)(h2:G'→G1:=by exact zI):G'→G:=fun k=>h1 (h2 k)
theorem zI4 {G G1 G':Prop}(h1:G1→G:=by exact zI2)(h2:G'→G1:=by exact zI2):G'→G:=fun k=>h1 (h2 k)
theorem zI8 {G G1 G':Prop}(h1:G1→G:=by exact zI4)(h2:G'→G1:=by exact zI4):G'→G:=fun k=>h1 (h2 k)
theorem y1 {G G1:Prop}(h1:G1→G:=by exact zI)(h0:G1:=by exact zN):G:=h1 h0
theorem w2 {G G':Prop}(k:G')(h1:G'→G:=by exact wI2):G:=h1 k
theorem z2 {G G':Prop}(k:G')(h1:G'→G:=by exact zI2):G:=h1 k
theorem y2 {G G1:Prop}(h1:G1→G:=by exact zI2)(h0:G1:=by exact zN):G:=h1 h0
theorem w3 {G G1 G':Prop}(k:G')(h1:G1→G:=by exact wI2)(h2:G'→G1:=by exact wI):G:=h1 (h2 k)
theorem z3 {G G1 G':Prop}(k:G')(h1:G1→G:=by exact zI2)(h2:G'→G1:=by exact zI):G:=h1 (h2 k)
theorem y3 {G G1 G2:Prop}(h1:G1→G:=by exact zI2)(h2:G2→G1:=by exact zI)(h0:G2:=by exact zN):G:=h1 (h2 h0)
theorem w4 {G G':Prop}(k:G')(h1:G'→G:=by exact wI4):G:=h1 k
theorem z4 {G G':Prop}(k:G')(h1:G'→G:=by exact zI4):G:=h1 k
theorem y4 {G G1:Prop}(h1:G1→G:=by exact zI4)(h0:G1:=by exact zN):G:=h1 h0
theorem w5 {G G1 G':Prop}(k:G')(h1:G1→G:=by exact wI4)(h2:G'→G1:=by exact wI):G:=h1 (h2 k)
theorem z5 {G G1 G':Prop}(k:G')(h1:G1→G:=by exact zI4)(h2:G'→G1:=by exact zI):G:=h1 (h2 k)
theorem y5 {G G1 G2:Prop}(h1:G1→G:=by exact zI4)(h2:G2→G1:=by exact zI)(h0:G2:=by exact zN):G:=h1 (h2 h0)
theorem w6 {G G1 G':Prop}(k:G')(h1:G1→G:=by exact wI4)(h2:G'→G1:=by exact wI2):G:=h1 (h2 k)
theorem z6 {G G1 G':Prop}(k:G')(h1:G1→G:=by exact zI4)(h2:G'→G1:=by exact zI2):G:=h1 (h2 k)
theorem w7 {G G1 G2 G':Prop}(k:G')(h1:G1→G:=by exact wI4)(h2:G2→G1:=by exact wI2)(h3:G'→G2:=by exact wI):G:=h1 (h2 (h3 k))
theorem z7 {G G1 G2 G':Prop}(k:G')(h1:G1→G:=by exact zI4)(h2:G2→G1:=by exact zI2)(h3:G'→G2:=by exact zI):G:=h1 (h2 (h3 k))
theorem y7 {G G1 G2 G3:Prop}(h1:G1→G:=by exact zI4)(h2:G2→G1:=by exact zI2)(h3:G3→G2:=by exact zI)(h0:G3:=by exact zN):G:=h1 (h2 (h3 h0))
theorem w8 {G G':Prop}(k:G')(h1:G'→G:=by exact wI8):G:=h1 k
theorem z8 {G G':Prop}(k:G')(h1:G'→G:=by exact zI8):G:=h1 k
theorem y8 {G G1:Prop}(h1:G1→G:=by exact zI8)(h0:G1:=by exact zN):G:=h1 h0
theorem w9 {G G1 G':Prop}(k:G')(h1:G1→G:=by exact wI8)(h2:G'→G1:=by exact wI):G:=h1 (h2 k)
theorem z9 {G G1 G':Prop}(k:G')(h1:G1→G:=by exact zI8)(h2:G'→G1:=by exact zI):G:=h1 (h2 k)
theorem y9 {G G1 G2:Prop}(h1:G1→G:=by exact zI8)(h2:G2→G1:=by exact zI)(h0:G2:=by exact zN):G:=h1 (h2 h0)
theorem w10 {G G1 G':Prop}(k:G')(h1:G1→G:=by exact wI8)(h2:G'→G1:=by exact wI2):G:=h1 (h2 k)
theorem z10 {G G1 G':Prop}(k:G')(h1:G1→G:=by exact zI8)(h2:G'→G1:=by exact zI2):G:=h1 (h2 k)
theorem y10 {G G1 G2:Prop}(h1:G1→G:=by exact zI8)(h2:G2→G1:=by exact zI2)(h0:G2:=by exact zN):G:=h1 (h2 h0)
theorem w11 {G G1 G2 G':Prop}(k:G')(h1:G1→G:=by exact wI8)(h2:G2→G1:=by exact wI2)(h3:G'→G2:=by exact wI):G:=h1 (h2 (h3 k))
theorem z11 {G G1 G2 G':Prop}(k:G')(h1:G1→G:=by exact zI8)(h2:G2→G1:=by exact zI2)(h3:G'→G2:=by exact zI):G:=h1 (h2 (h3 k))
theorem y11 {G G1 G2 G3:Prop}(h1:G1→G:=by exact zI8)(h2:G2→G1:=by exact zI2)(h3:G3→G2:=by exact zI)(h0:G3:=by exact zN):G:=h1 (h2 (h3 h0))
theorem w12 {G G1 G':Prop}(k:G')(h1:G1→G:=by exact wI8)(h2:G'→G1:=by exact wI4):G:=h1 (h2 k)
theorem z12 {G G1 G':Prop}(k:G')(h1:G1→G:=by exact zI8)(h2:G'→G1:=by exact zI4):G:=h1 (h2 k)
theorem y12 {G G1 G2:Prop}(h1:G1→G:=by exact zI8)(h2:G2→G1:=by exact zI4)(h0:G2:=by exact zN):G:=h1 (h2 h0)
theorem w13 {G G1 G2 G':Prop}(k:G')(h1:G1→G:=by exact wI8)(h2:G2→G1:=by exact wI4)(h3:G'→G2:=by exact wI):G:=h1 (h2 (h3 k))
theorem y13 {G G1 G2 G3:Prop}(h1:G1→G:=by exact zI8)(h2:G2→G1:=by exact zI4)(h3:G3→G2:=by exact zI)(h0:G3:=by exact zN):G:=h1 (h2 (h3 h0))
theorem w14 {G G1 G2 G':Prop}(k:G')(h1:G1→G:=by exact wI8)(h2:G2→G1:=by exact wI4)(h3:G'→G2:=by exact wI2):G:=h1 (h2 (h3 k))
theorem z14 {G G1 G2 G':Prop}(k:G')(h1:G1→G:=by exact zI8)(h2:G2→G1:=by exact zI4)(h3:G'→G2:=by exact zI2):G:=h1 (h2 (h3 k))
theorem y14 {G G1 G2 G3:Prop}(h1:G1→G:=by exact zI8)(h2:G2→G1:=by exact zI4)(h3:G3→G2:=by exact zI2)(h0:G3:=by exact zN):G:=h1 (h2 (h3 h0))
theorem w15 {G G1 G2 G3 G':Prop}(k:G')(h1:G1→G:=by exact wI8)(h2:G2→G1:=by exact wI4)(h3:G3→G2:=by exact wI2)(h4:G'→G3:=by exact wI):G:=h1 (h2 (h3 (h4 k)))
theorem y15 {G G1 G2 G3 G4:Prop}(h1:G1→G:=by exact zI8)(h2:G2→G1:=by exact zI4)(h3:G3→G2:=by exact zI2)(h4:G4→G3:=by exact zI)(h0:G4:=by exact zN):G:=h1 (h2 (h3 (h4 h0)))
theorem w16 {G G1 G':Prop}(k:G')(h1:G1→G:=by exact wI8)(h2:G'→G1:=by exact wI8):G:=h1 (h2 k)
theorem z16 {G G1 G':Prop}(k:G')(h1:G1→G:=by exact zI8)(h2:G'→G1:=by exact zI8):G:=h1 (h2 k)
end Go.Proofs.YtjfpbcmfbnnooaaGreat
namespace Go.Proofs.YtjfpbcmfbnnooaaGreat
open Go.RowKit
def clR (E:TypeId)(e:Ty)(xs:List e.Den):Rsc where
 rel N w f v:=f=[]∧∃ad,v= .slice ad xs.length xs.length∧Rd N (.sl E e) w [v] xs
 fl:=false
 keep:=fun ⟨h1,ad,h2,h3⟩ _ h=>⟨h1,ad,h2,h3.mono h⟩
 lt:=fun ⟨h1,_⟩ g hg=>by rw[h1] at hg;cases hg
 one:=fun ⟨_,ad,h,_⟩=>by rw[h];rfl
 noN:=fun h=>by cases h
section
variable {A:Amb}{P:Program}{s:St}{x y:Operand}{d:Nat}{T T' ty:TypeId}{pos:String}{af:Array Edge}{g:Option (Nat×Bool)}
theorem Rg.addR {gh:Gh}{a:Act}{w:World}(r:Rg A s gh a w){t:Nat}{R:Rsc}{u:Value}(i:Fresh s t)(k:A.k0≤t)(h:R.rel gh.N w [] u):
 Rg A ⟨s.tm,(t,some (.res R))::s.tab⟩ ⟨upd gh.h t u,upd gh.f t [],gh.N⟩ a w:=
 r.redo (fun v=>v=t) rfl (fun v b=>⟨by rw[Qg,if_neg b],WG _ _ b,WG _ _ b⟩) (fun v n b c=>by
  have b:v=t:=b
  subst b
  rw[Qg,if_pos rfl] at c
  cases c
  refine ⟨fun m=> ?_,?_,fun g e=> ?_,.inr ⟨i,k⟩⟩
  ·show R.rel gh.N w (upd gh.f v [] v) (upd gh.h v u v)
   rw[Yc,Yc];exact h
  ·show (upd gh.f v [] v).Nodup
   rw[Yc];exact bG
  ·have e:g∈upd gh.f v [] v:=e
   rw[Yc] at e;cases e) (fun v o b j _ _ l=>absurd (Eq.trans b (Eq.symm j)) l) (Zl w) fun _ _ _=>rfl
def gtB (m n:ByteArray):Bool:= !Op.bytesLess m.toList n.toList&& !decide (m=n)
theorem QoQ {m n:ByteArray}(f:Evl A s x (dS m))(h:Evl A s y (dS n))(e:Nat.blt d A.n=true):Does A P ⟨some d,.binOp .gtr T x y T',ty,pos,af,g⟩ s (s.put d (lf (dB (gtB m n)))):=
 Qi rfl e fun i a w r=>⟨.bool (gtB m n),by
  have b:=f.st r
  have c:=h.st r
  simp only[execOp,b,c,eqGuard_at_string,binOp,Op.stringOp,gtB]
  simp[HD],_,rfl,ZN⟩
theorem Qp5 {len a:Nat}{w:World}{n:Int}(h:n=(len:Int))(b:len≤a):
 (Instr.sliceBounds true len a none (some (.int .i64 n)) (some (.int .i64 n))).run P w= .ok (0,len,len) w:=by
 subst h
 simp only[Instr.sliceBounds,Instr.sliceBound,asIntOf,aw,aY,aG,Go.Sem.run_ite]
 rw[if_pos (by omega)]
 simp
theorem Qjl (t:Nat){E:TypeId}{e:Ty}{xs:List e.Den}{hi j:Operand}{n:Int}{m:Bool}(F:Evl A s x (.dat (.sl E e) xs))(h:opI A s (some hi) (some n))(i:opI A s (some j) (some n)){E':TypeId}(C:P.underlying T=some (.slice E'))(u:tsh P E'=some (m,e.wd))
 (he:n=(xs.length:Int)) (hn:Nat.blt d A.n=true) (hfr:Fresh s t) (hk0:A.k0≤t):
 Does A P ⟨some d,.slice T x none (some hi) (some j),ty,pos,af,g⟩ s ⟨(d,lf (.ref t))::s.tm,(t,some (.res (clR E e xs)))::s.tab⟩:=fun a w K Q r v=>by
 obtain ⟨q,r⟩:=r
 obtain ⟨J,z,f⟩:=F q a w r
 obtain ⟨B,c,l,G,N⟩:=f.slv
 have p:(execOp a.eval ⟨some d,.slice T x none (some hi) (some j),ty,pos,af,g⟩).run P w= .ok (.value (.slice (if xs.length=0 then B else B.map (·.add (0*e.wd))) (xs.length - 0) (xs.length - 0))) w:=by
  simp only[execOp,l,h.ev r,i.ev r,dD,cO,Instr.sliceAt,Instr.slice,aw,run_underlying C,aG,Qp5 he G,Yw u]
  simp
 unfold Oper.wp
 rw[p,Oper.upon_value]
 refine v _ _ ⟨_,(r.addR hfr hk0 (R:=clR E e xs) ⟨rfl,_,rfl,J,z,?_⟩).put (aE hn) (pv:=lf (.ref t)) ⟨_,rfl,fun _=>(Yc ..).symm⟩⟩
 rw[l] at f
 obtain ⟨L,M,k,O,S,I⟩:=f
 simp only[aI,Value.slice.injEq,and_true,true_and] at k
 obtain ⟨rfl,rfl⟩:=k
 refine ⟨_,xs.length,rfl,aO _,by omega,fun D=> ?_⟩
 obtain ⟨b,o,rfl,H⟩:=I D
 rw[if_neg (by omega)]
 exact ⟨b,o,by simp[Addr.add_lit],H⟩
theorem Qs3 {E:TypeId}{e:Ty}{w:World}(t ty:TypeId)(L:P.underlying t=some (.slice E))(K:ElemInfo P E e){I:Option Addr}{u:Value}{xs ys:List e.Den}(h1:Rep (.sl E e) w [.slice I xs.length xs.length] xs)
 (h2:Rep (.sl E e) w [u] ys) (m:e.flat=true) (hy:0<ys.length) (hb:xs.length+ys.length≤1073741824):
 ∃r w' a,(Builtin.append_ #[t,t] ty #[.slice I xs.length xs.length,u]).run P w= .ok r w'∧Own (.sl E e) w' a [r] (xs++ys)∧a.Nodup∧(∀g∈a,w.heap.size≤g)∧Grw w w'∧∀g,g<w.heap.size→w'.heap[g]? =w.heap[g]? :=by
 rcases h1.srcOk m with ⟨c,q,hx,_⟩|⟨V,co,k,q,N,o2⟩
 ·subst hx
  simp only[Value.slice.injEq] at q
  obtain ⟨rfl,_,_⟩:=q
  obtain ⟨r,w',a,B,C,l,Q,R,S⟩:=QbM (P:=P) t ty L K (v:= .slice none 0 0) (fp:=[]) (xs:=[]) (.inl ⟨rfl,rfl,rfl⟩) bG (h2.srcOk m) bG (by simp) (by simp) (by simpa using hb)
  exact ⟨r,w',a,B,C,l,fun g b=>by
   rcases Q g b with h|h|h
   ·cases h
   ·cases h
   ·exact h,R,fun g b=>S g b (by simp)⟩
 ·simp only[Value.slice.injEq] at q
  obtain ⟨rfl,_,hc⟩:=q
  rcases h2.srcOk m with ⟨c,_,h,_⟩|⟨U,Y,j,rfl,M,n2⟩
  ·rw[h] at hy;cases hy
  ·obtain ⟨i,z,i1,i2,i3,i4,i5⟩:=K
   have F:(xs.length+ys.length)*i.bytes≤140737488355328:=by
    calc (xs.length+ys.length)*i.bytes≤1073741824*65536:=cE (by omega) i4
     _≤140737488355328:=by decide
   obtain ⟨r,w',B,C,l⟩:=run_append_arg_grows (P:=P) w t ty E i z e.wd i.bytes L i1 i2 i3 rfl i5 (Xw e) V xs.length xs.length k N.len o2 U ys.length Y j M.len n2 (by omega) (by unfold maxLen;omega) F
   have G:∀g,g<w.heap.size→w'.heap[g]? =w.heap[g]? :=fun g b=>l.block g b (by simp)
   obtain ⟨W,X⟩:=C
   have k1:OwnL (Own e w') [] k xs:=N.mono fun f c x m H=>H.keep fun g b=>by have:=m g b;cases this
   have k2:OwnL (Own e w') [] j ys:=M.mono fun f c x m H=>H.keep fun g b=>by have:=m g b;cases this
   rcases X with ⟨_,h0⟩|⟨g,o,D,rfl,Z,g2,g3,g4,g5,g6⟩
   ·omega
   ·obtain ⟨J,o3,O⟩:=Qep (e:=e) (xs:=xs++ys) (n:=xs.length+ys.length) (by rw[ah]) (w:=w') (v:= .slice (some ⟨g,0,none⟩) (xs.length+ys.length) o) ⟨W,.inr ⟨g,o,D,rfl,aL _,g2,g3,g4,g5,g6⟩⟩ (k1.append k2)
    refine ⟨_,w',J,B,o3,?_,fun g' p=> ?_,⟨l.os,l.tape,l.output,l.size⟩,G⟩
    ·rcases O with ⟨_,rfl⟩|⟨_,_,rfl⟩ <;> simp
    ·rcases O with ⟨h,_⟩|⟨g9,h,rfl⟩
     ·cases h
     ·simp only[Value.ownBlock,bp] at h
      simp only[br,aJ,bN,or_false] at p
      subst p;subst h;exact Z
theorem QhU (t:Nat){q:Nat}{E:TypeId}{e:Ty}{xs ys:List e.Den}(m:Evl A s x (.ref q))(c:s.tab.ent q=some (.res (clR E e xs)))(v:Qa3 A s y (.sl E e) ys)(u:e.flat=true)(j:0<ys.length)
 (hT:P.underlying T=some (.slice E)) (hE:X1 P E e.wd=true) (hb:xs.length+ys.length≤1073741824) (hn:Nat.blt d A.n=true) (hfr:Fresh s t) (hk0:A.k0≤t):
 Does A P ⟨some d,.call {callee:= .builtin .append,args:= #[x,y],argTypes:= #[T,T]},ty,pos,af,g⟩ s (s.mk_ d t [q] E e (xs++ys)):=fun a w K Q r p=>by
 obtain ⟨b,r⟩:=r
 obtain ⟨I,H,k,l⟩:(clR E e xs).rel b.N w (b.f q) (b.h q):=r.cx.en q _ c
 rw[k] at l
 obtain ⟨J,L,o,z,B,C,D,F,G⟩:=Qs3 (P:=P) T ty hT (Qbh hE) l.rep (v b a w r) u j hb
 exact Hf rfl (by rw[show a.eval x=b.h q from m b a w r ⟨_,c⟩,k];exact z) (p _ _ (r.make_put t hfr hk0 [q] (by simp only[aJ,bN,or_false];rintro _ rfl;exact ⟨_,c⟩) F (fun g i m=>G g i) B C (fun g i=> .inl (D g i)) hn))
theorem Qgn (t:Nat){q:Nat}{E:TypeId}{e:Ty}{xs ys:List e.Den}(m:Evl A s x (.ref q))(j:s.tab.ent q=some (.res (clR E e xs)))(o:Qa3 A s y (.sl E e) ys)(k:e.flat=true)(b:0<ys.length)
 (hT:P.underlying T=some (.slice E)) (hE:X1 P E e.wd=true) (hb:xs.length+ys.length≤1073741824) (hn:Nat.blt d A.n=true) (hfr:Fresh s t) (hk0:A.k0≤t):
 Does A P ⟨some d,.call {callee:= .builtin .append,args:= #[x,y],argTypes:= #[T,T]},ty,pos,af,g⟩ s ⟨(d,lf (.dat (.sl E e) (xs++ys)))::s.tm,(q,none)::s.tab⟩:=
 Does.wk (QhU t m j o k b hT hE hb hn hfr hk0) (Wk.trans (Wk.freeze (i:=d) (q:=t) (E:=E) (e:=e) (xs:=xs++ys) (by show lk ((d,_)::_) d=_;rw[XT,if_pos rfl]) (by show Tab.ent ((t,_)::_) t=_;rw[Qg,if_pos rfl])) fun a w ⟨f,r⟩=>⟨f,r.ext (fun i=>by
  show lk ((d,_)::s.tm) i=lk ((d,_)::(d,_)::s.tm) i
  rw[XT,XT,XT]
  by_cases h:i=d
  ·rw[if_pos h,if_pos h]
  ·rw[if_neg h,if_neg h,if_neg h]) fun u=>by
  show Tab.ent ((q,none)::s.tab) u=Tab.ent ((t,none)::(t,_)::(q,none)::s.tab) u
  rw[Qg t,Qg t]
  by_cases h:u=t
  ·rw[if_pos h,Qg]
   split
   ·rfl
   ·subst h
    cases l:Tab.ent s.tab u with
    | none=>rfl
    | some c=>exact absurd ⟨c,l⟩ hfr.al
  ·rw[if_neg h,if_neg h]⟩)
end
section
variable {A:Amb}{s:St}
theorem WH {p:Nat}{E':TypeId}{cs:List LV}(b:List LV)(d:s.tab.ent p=some (.box E' cs))(k:Qm9 cs b):Wk A s ⟨s.tm,(p,some (.box E' b))::s.tab⟩:=fun a w r=>by
 obtain ⟨e,r⟩:=r
 obtain ⟨g,c,f,h,i,j⟩:=r.cx.en p _ d
 exact ⟨e,r.mod d (Zl w) (fun _ _ _=>rfl) ⟨g,c,f,h,i,j.nils k⟩⟩
end
section
variable {A:Amb}{P:Program}{s:St}{x y:Operand}{d:Nat}{T T' ty:TypeId}{pos:String}{af:Array Edge}{g:Option (Nat×Bool)}
theorem QjU (a:BinOp)(b:a= .and∨a= .or)(m n:Nat)(h:m<9223372036854775808)(i:n<9223372036854775808):bits a .i64 (m:Int) (n:Int)=((if a= .and then m &&& n else m ||| n:Nat):Int):=by
 have c:(BitVec.ofInt 64 (m:Int)).toNat=m:=by rw[BitVec.ofInt_natCast,BitVec.toNat_ofNat];exact dx (by omega)
 have e:(BitVec.ofInt 64 (n:Int)).toNat=n:=by rw[BitVec.ofInt_natCast,BitVec.toNat_ofNat];exact dx (by omega)
 rcases b with rfl|rfl
 ·have f:m &&& n<2 ^ 63:=Nat.and_lt_two_pow _ (by omega)
  show IntKind.i64.wrap ((BitVec.ofInt 64 (m:Int) &&& BitVec.ofInt 64 (n:Int)).toNat:Int)=_
  rw[BitVec.toNat_and,c,e,IntWalk.i64_in _ (by omega)]
  rfl
 ·have f:m ||| n<2 ^ 63:=Nat.or_lt_two_pow (by omega) (by omega)
  show IntKind.i64.wrap ((BitVec.ofInt 64 (m:Int) ||| BitVec.ofInt 64 (n:Int)).toNat:Int)=_
  rw[BitVec.toNat_or,c,e,IntWalk.i64_in _ (by omega)]
  rfl
theorem QaY {m n:Int}(f:Evl A s x (dI m))(h:Evl A s y (dI n))(o:Nat.blt d A.n=true)(h0:0≤m)(c:0≤n):Does A P ⟨some d,.binOp .and T x y T',ty,pos,af,g⟩ s (s.put d (lf (dI ((m.toNat &&& n.toNat:Nat):Int)))):=
 Qi rfl o fun e a w r=>by
  have j:=f.i r
  have k:=h.i r
  have q:=(LVR.int (f e a w r)).2
  have t:=(LVR.int (h e a w r)).2
  have b:=QjU .and (.inl rfl) m.toNat n.toNat (by omega) (by omega)
  rw[cV h0,cV c] at b
  have b:bits .and .i64 m n=((m.toNat &&& n.toNat:Nat):Int):=b
  have l:Op.intBits .and .i64 m n=pure (.int .i64 ((m.toNat &&& n.toNat:Nat):Int)):=by rw[← b];rfl
  have p:m.toNat &&& n.toNat≤m.toNat:=Nat.and_le_left
  refine ⟨.int .i64 ((m.toNat &&& n.toNat:Nat):Int),?_,_,rfl,Yi (by omega)⟩
  simp only[execOp,j,k,eqGuard_at_int,binOp,l]
  simp
theorem QtM {m n:Int}(f:Evl A s x (dI m))(h:Evl A s y (dI n))(o:Nat.blt d A.n=true)(h0:0≤m)(c:0≤n):Does A P ⟨some d,.binOp .or T x y T',ty,pos,af,g⟩ s (s.put d (lf (dI ((m.toNat ||| n.toNat:Nat):Int)))):=
 Qi rfl o fun e a w r=>by
  have j:=f.i r
  have k:=h.i r
  have q:=(LVR.int (f e a w r)).2
  have t:=(LVR.int (h e a w r)).2
  have b:=QjU .or (.inr rfl) m.toNat n.toNat (by omega) (by omega)
  rw[cV h0,cV c] at b
  have b:bits .or .i64 m n=((m.toNat ||| n.toNat:Nat):Int):=b
  have l:Op.intBits .or .i64 m n=pure (.int .i64 ((m.toNat ||| n.toNat:Nat):Int)):=by rw[← b];rfl
  have p:m.toNat ||| n.toNat<2 ^ 63:=Nat.or_lt_two_pow (by omega) (by omega)
  refine ⟨.int .i64 ((m.toNat ||| n.toNat:Nat):Int),?_,_,rfl,Yi (by omega)⟩
  simp only[execOp,j,k,eqGuard_at_int,binOp,l]
  simp
theorem Qjk {m n:Int}(h:Evl A s x (dI m))(j:Evl A s y (dI n))(f:Nat.blt d A.n=true)(h0:0≤n∧n≤62)(hb: -9223372036854775808≤m*2 ^ n.toNat∧m*2 ^ n.toNat≤9223372036854775807):Does A P ⟨some d,.binOp .shl T x y T',ty,pos,af,g⟩ s (s.put d (lf (dI (m*2 ^ n.toNat)))):=
 Qi rfl f fun k a w r=>by
  have b:=h.i r
  have c:=j.i r
  have e:Op.shift .shl .i64 m .i64 n=pure (.int .i64 (m*2 ^ n.toNat)):=by
   rw[shift_shl_any _ _ _ _ h0.1,show IntKind.i64.bits=64 from rfl,cF (by omega),IntWalk.i64_in _ (by omega)]
  refine ⟨.int .i64 (m*2 ^ n.toNat),?_,_,rfl,Yi hb⟩
  simp only[execOp,b,c,eqGuard_at_int,binOp,e]
  simp
theorem Qa1 {m n:Int}(c:Evl A s x (dI m))(l:Evl A s y (dI n))(k:Nat.blt d A.n=true)(h0:0≤n∧n≤62)(b:0≤m):Does A P ⟨some d,.binOp .shr T x y T',ty,pos,af,g⟩ s (s.put d (lf (dI (m / 2 ^ n.toNat)))):=
 Qi rfl k fun e a w r=>by
  have f:=c.i r
  have h:=l.i r
  have q:=(LVR.int (c e a w r)).2
  have j:Op.shift .shr .i64 m .i64 n=pure (.int .i64 (m / 2 ^ n.toNat)):=by
   rw[shift_shr_any _ _ _ _ h0.1,show IntKind.i64.bits=64 from rfl,cF (by omega)]
  have o:0≤m / 2 ^ n.toNat:=ce b (bY (by decide))
  have p:m / 2 ^ n.toNat≤m:=Int.ediv_le_self _ b
  refine ⟨.int .i64 (m / 2 ^ n.toNat),?_,_,rfl,Yi (by omega)⟩
  simp only[execOp,f,h,eqGuard_at_int,binOp,j]
  simp
end
theorem Qij:EqT Tryz.prog 2 103 true (.pr .str .int):=EqT.struct Tryz.underlying103 (by kernel_rfl) (EqFs.cons (by decide) rfl ZX (fun _=>rfl) (EqT.str Zo) (EqFs.one (by decide) rfl Wl (fun _=>rfl) (EqT.int Qac)))
theorem Qih:(Tryz.prog.eqGuardType Tryz.prog.depth 103=false)∧2≤10000:=⟨by kernel_rfl,by decide⟩
theorem QuM:EqT Tryz.prog 2 183 true (.pr .int .bool):=EqT.struct Tryz.underlying183 (by kernel_rfl) (EqFs.cons (by decide) rfl Wl (fun _=>rfl) (EqT.int Qac) (EqFs.one (by decide) rfl Qky (fun _=>rfl) (EqT.bool Y7)))
theorem QuL:(Tryz.prog.eqGuardType Tryz.prog.depth 183=false)∧2≤10000:=⟨by kernel_rfl,by decide⟩
end Go.Proofs.YtjfpbcmfbnnooaaGreat
