/- Steps of a walk that are found by themselves: tables of the types, one operation, one step of the control. -/
import Derived.Test.YtjaadeknhofhpaaGreatAf
import Derived.Test.YtjaadeknhofhpaaGreatAt
import Derived.Test.YtjaadeknhofhpaaGreatAe
import Derived.DeepKeys3
import Derived.Laws.Shifts
import Derived.Laws.BitsAllLaws
import Derived.Test.YtjaadeknhofhpaaGreatAk
import Derived.Sort.EveryDepth
import Derived.Sort.OwnSortedInts
import Derived.Shelf.Sort.AssemblyIn
set_option linter.unusedSimpArgs false
set_option linter.unusedVariables false
set_option linter.unusedSectionVars false
namespace Go.Proofs.YtjaadeknhofhpaaGreat
open Go.RowKit
set_option maxRecDepth 100000
theorem QgE {α:Type _}:∀{l:List (Nat×α)} {i:Nat} {x:α},lk l i=some x→(i,x)∈l
  | (j,y) :: l,i,x,h=>by
    rw[Ul] at h
    split at h
    · rename_i e; cases h; subst e; exact aA ..
    · exact ax _ (QgE h)
noncomputable def tshT:List (Nat×Bool×Nat):=[(0,false,1),(2,false,1),(3,false,1),(4,false,1),(5,false,1),(6,false,1),(8,true,4),(9,false,1),(10,false,1),(11,false,1),(12,false,1),(14,true,2),(15,false,1),(16,false,1),(17,false,1),(19,true,1),(20,false,1),(22,false,1),(23,false,1),(25,true,2),(26,false,1),(27,false,1),(29,true,5),(32,true,3),(33,false,1),(35,false,1),(37,false,1),(39,false,1),(40,false,1),(42,false,1),(46,false,1),(49,false,1),(50,false,1),(52,true,3),(55,true,2),(57,true,4),(58,false,1),(60,false,1),(61,false,1),(63,false,1),(67,false,1),(69,true,2),(70,false,1),(71,false,1),(73,true,5),(75,false,1),(79,false,1),(80,false,1),(82,false,1),(84,false,1),(90,true,2),(91,false,1),(93,false,1),(95,false,1),(96,false,1),(98,false,1),(103,false,1),(106,true,4),(107,false,1),(110,false,1),(113,false,1),(118,false,1),(119,false,1),(121,true,3),(132,true,7),(133,false,1),(135,false,1),(138,false,1),(140,false,1),(155,false,1),(159,false,1),(160,false,1),(162,false,1),(164,true,2),(165,false,1),(168,false,1),(174,false,1),(182,false,1),(194,false,1),(198,true,2),(199,false,1),(205,false,1),(211,false,1),(214,false,1),(218,false,1),(220,false,1),(225,true,2),(229,true,3),(232,true,3),(233,false,1),(239,true,2),(242,false,1),(253,false,1),(255,true,6),(261,false,1),(262,false,1),(263,false,1),(265,true,9),(268,true,2),(270,false,1),(283,false,1),(289,true,2),(303,true,2),(307,false,1),(309,false,1),(314,false,1),(315,false,1),(321,false,1),(327,false,1),(328,false,1),(335,false,1),(337,true,8),(345,false,1),(347,true,7),(350,false,1),(353,false,1),(355,false,1),(359,false,1),(360,false,1),(364,false,1),(366,false,1),(379,false,1),(381,false,1),(383,false,1),(396,false,1)]
noncomputable def fldT:List (Nat×Nat):=[(512,0),(513,1),(514,2),(515,3),(896,0),(897,1),(1216,0),(1600,0),(1601,1),(1856,0),(1857,2),(1858,3),(1859,4),(2048,0),(2049,1),(2050,2),(3328,0),(3329,1),(3330,2),(3520,0),(3521,1),(3648,0),(3649,2),(4416,0),(4417,1),(4672,0),(4673,2),(4674,3),(4675,4),(5760,0),(5761,1),(6784,0),(6785,1),(6786,2),(6787,3),(7744,0),(7745,1),(7746,2),(8448,0),(8449,4),(10496,0),(10497,1),(12672,0),(12673,1),(14400,0),(14401,1),(14656,0),(14657,1),(14658,2),(14848,0),(14849,1),(14850,2),(15296,0),(15297,1),(16320,0),(16321,2),(16322,3),(16323,4),(16324,5),(16960,0),(16961,3),(16962,4),(16963,7),(16964,8),(17152,0),(17153,1),(18496,0),(18497,1),(19392,0),(19393,1),(21568,0),(21569,3),(21570,4),(21571,5),(22208,0),(22209,5),(22210,6)]
noncomputable def sliT:List (Nat×Nat):=[(22,5),(23,198),(26,90),(27,55),(39,32),(49,9),(50,106),(60,57),(67,303),(70,225),(71,239),(79,95),(95,3),(135,132),(160,4),(162,229),(205,289),(233,232),(263,268)]
theorem Qtv:(tshT.all fun p=>decide (tsh Tryz.prog p.1=some p.2))=true:=by kernel_rfl
theorem Qtu:(fldT.all fun p=>decide (fld Tryz.prog (p.1 / 64) (p.1 % 64)=some p.2))=true:=by kernel_rfl
noncomputable def strT:List Nat:=[9,10,11]
noncomputable def strB (T:Nat):Bool:=match Tryz.prog.underlying T with
  | some .string=>true
  | _=>false
theorem Qto:(strT.all strB)=true:=by kernel_rfl
theorem Qu1 {T:TypeId}(h:inB T strT=true):Tryz.prog.underlying T=some .string:=by
  have h1:=ah.1 Qto _ (Qgz.1 h)
  unfold strB at h1
  split at h1
  · assumption
  · cases h1
noncomputable def sliB (T E:Nat):Bool:=match Tryz.prog.underlying T with
  | some (.slice E')=>Nat.beq E' E
  | _=>false
theorem Qtm:(sliT.all fun p=>sliB p.1 p.2)=true:=by kernel_rfl
theorem KW {T:TypeId}{b:Bool}{n:Nat}(h:lk tshT T=some (b,n)):tsh Tryz.prog T=some (b,n):=a7 (ah.1 Qtv _ (QgE h))
theorem Qos {T f o:Nat}(h:lk fldT (Nat.add (Nat.mul 64 T) f)=some o)(hf:Nat.blt f 64=true):fld Tryz.prog T f=some o:=by
  have h1:=a7 (ah.1 Qtu _ (QgE h))
  have hf:=aE hf
  rwa [show Nat.add (Nat.mul 64 T) f=64*T+f from rfl,show (64*T+f) / 64=T by omega,show (64*T+f) % 64=f by omega] at h1
theorem Qhh {T E:TypeId}(h:lk sliT T=some E):Tryz.prog.underlying T=some (.slice E):=by
  have h1:=ah.1 Qtm _ (QgE h)
  unfold sliB at h1
  split at h1
  · rename_i h2; rw[h2,aT h1]
  · cases h1
section
variable {A:Amb}{s s':St}{o:Oper}
theorem xlI {d:Nat}{x:Operand}{T ty:TypeId}{pos:String}{af:Array Edge}{g:Option (Nat×Bool)}{q wd i j n:Nat}{E:TypeId}{e t:Ty}{xs:List e.Den}{z:e.Den}{y':t.Den}(hx:Evl A s x (.ept q wd i j))(he:s.tab.ent q=some (.arr E e xs))(hw:wd=e.wd)(hz:xs[i]? =some z)(hf:e.flat=true)(hT:tsh Tryz.prog T=some (false,n))(hl:(leaves e z)[j]? =some (.dat t y'))(hn:Nat.blt d A.n=true):Does A Tryz.prog ⟨some d, .load T x,ty,pos,af,g⟩ s (s.put d (lf (.dat t y'))):=by
  subst hw; exact Zp hx he hz hf hT hl hn
theorem QvH {d:Nat}{x:Operand}{T ty:TypeId}{pos:String}{af:Array Edge}{g:Option (Nat×Bool)}{q wd i j n:Nat}{E:TypeId}{e:Ty}{xs:List e.Den}{z:e.Den}(hx:Evl A s x (.ept q wd i j))(he:s.tab.ent q=some (.arr E e xs))(hw:wd=e.wd)(hz:xs[i]? =some z)(hf:e.flat=true)(hT:tsh Tryz.prog T=some (true,n))(hl:Nat.ble (j+n) e.wd=true)(hn:Nat.blt d A.n=true):Does A Tryz.prog ⟨some d, .load T x,ty,pos,af,g⟩ s (s.put d (ag (((leaves e z).drop j).take n))):=by
  subst hw; exact Ua hx he hz hf hT hl hn
theorem D_ (h:Does A Tryz.prog o s s':=by
    first
    | ((with_reducible apply Xs); exact Qa rfl; rfl; exact KW rfl; rfl; rfl)
    | ((with_reducible apply ZN); exact Qa rfl; exact Qos rfl rfl; rfl; rfl)
    | ((with_reducible apply JL); rfl; rfl)
    | ((with_reducible apply Us); rfl; rfl)
    | ((with_reducible apply Qbn); rfl; rfl; rfl)
    | ((with_reducible apply JG); exact Qa rfl; rfl; exact KW rfl; rfl; rfl)
    | ((with_reducible apply QeJ); (first | exact Qu rfl | exact Zg | exact Evl.str rfl | exact Evl.val); rfl)
    | ((with_reducible apply Ws); (first | exact Qu rfl | exact Zg | exact Evl.str rfl | exact Evl.val); rfl)
    | ((with_reducible apply QiF); (first | exact Qa rfl | exact Qu rfl); (first | exact Qa rfl | exact Qu rfl); rfl)
    | ((with_reducible apply VT); (first | exact Qa rfl | exact Qu rfl); (first | exact Qa rfl | exact Qu rfl); rfl)
    | ((with_reducible apply Qav); (first | exact Qa rfl | exact Qu rfl); (first | exact Qa rfl | exact Qu rfl); rfl)
    | ((with_reducible apply QhR); (first | exact Qa rfl | exact Qu rfl); (first | exact Qa rfl | exact Qu rfl); rfl)
    | ((with_reducible apply QaE); (first | exact Qa rfl | exact Qu rfl); (first | exact Qa rfl | exact Qu rfl); rfl)
    | ((with_reducible apply QhL); (first | exact Qa rfl | exact Qu rfl); (first | exact Qa rfl | exact Qu rfl); rfl)
    | ((with_reducible apply XS); (first | exact Qa rfl | exact Qu rfl); (first | exact Qa rfl | exact Qu rfl); rfl; omega)
    | ((with_reducible apply Vi); (first | exact Qa rfl | exact Qu rfl); (first | exact Qa rfl | exact Qu rfl); rfl; omega)
    | ((with_reducible apply Qi7); exact Qa rfl; rfl)
    | ((with_reducible apply QdR); exact Qa rfl; (first | exact Qf rfl | exact Evl.ev Zg | exact Evl.ev (Qu rfl)); rfl)
    | ((with_reducible apply Qdj); exact Qa rfl; (first | exact Qf rfl | exact Evl.ev Zg | exact Evl.ev (Qu rfl)); rfl)
    | ((with_reducible apply Qen); exact Qa rfl; exact KW rfl; rfl; rfl)
    | ((with_reducible apply Qcg); exact Qa rfl; exact KW rfl; rfl; rfl)
    | ((with_reducible apply Qcj); exact Qa rfl; exact Qos rfl rfl; rfl)
    | ((with_reducible apply YV); exact Qa rfl; exact Qos rfl rfl; rfl; rfl)
    | ((with_reducible apply Wo); exact Qa rfl; rfl; rfl)
    | ((with_reducible apply Qom); exact Qa rfl; rfl; rfl)
    | ((with_reducible apply Qf4); exact Qa rfl; rfl; rfl; exact Qhh rfl)
    | ((with_reducible apply QiO); exact Qa rfl; rfl; exact Qhh rfl)
    | ((with_reducible apply VG); (first | exact Qa rfl | exact Evl.str rfl); (first | exact Qa rfl | exact Evl.str rfl); rfl)
    | ((with_reducible apply Qgo); (first | exact Qa rfl | exact Evl.str rfl); (first | exact Qa rfl | exact Evl.str rfl); rfl)
    | ((with_reducible apply QZ); exact Qa rfl; rfl; (first | exact Qf rfl | exact Evl.ev (Qu rfl) | exact Evl.ev Zg | exact Evl.ev (Evl.str rfl) | exact Evl.ev (QB _ rfl)); rfl; exact KW rfl; rfl)
    | ((with_reducible apply Qcb); exact Qa rfl; (first | exact Qa rfl | exact Qu rfl); exact Qhh rfl; exact KW rfl; rfl; omega; assumption)
    | ((with_reducible apply Uq); (first | exact Qa rfl | exact Evl.str rfl); (first | exact Qa rfl | exact Qu rfl); rfl; exact Qu1 rfl; omega; assumption)
    | ((with_reducible apply QS); exact Qa rfl; rfl; (first | exact Qa rfl | exact Qu rfl); exact Qhh rfl; exact KW rfl; rfl; omega; (first | omega | (simp only[au]; omega)))
    | ((with_reducible apply xlI); exact Qa rfl; rfl; rfl; assumption; rfl; exact KW rfl; rfl; rfl)
    | ((with_reducible apply QvH); exact Qa rfl; rfl; rfl; assumption; rfl; exact KW rfl; rfl; rfl)
    | ((with_reducible apply Qt); exact Qa rfl; exact Qa rfl; rfl)
    | ((with_reducible apply Q7); exact Qa rfl; exact Qa rfl; rfl)):Does A Tryz.prog o s s':=h
theorem xbx {T ty:TypeId}{d:Nat}{x:Operand}{pos:String}{af:Array Edge}{ops:Array Oper}{l:List Oper}{Q:Exit→St→Prop}(t:Nat){b:Bool}{ls:List LV}(k:AL A Tryz.prog ops l Q (s.new d t (.ptr t 0) (.box T ls)))(hx:Ev A s x (b,ls):=by first | exact Qf rfl | exact Evl.ev (Qu rfl) | exact Evl.ev Zg | exact Evl.ev (Evl.str rfl))(hk:Q6 s.tab ls=true:=by rfl)(hn:Nat.blt d A.n=true:=by rfl)(hfr:Fresh s t:=by exact Fresh.of rfl)(hk0:A.k0≤t:=by exact nlr rfl):AL A Tryz.prog ops (⟨some d, .box T x,ty,pos,af,none⟩ :: l) Q s:=lc (QpV t hx hk hn hfr hk0) k
theorem xal {T ty:TypeId}{d:Nat}{pos:String}{af:Array Edge}{g:Option (Nat×Bool)}(k:Nat)(t:Ty){z:Value}(hz:zer Tryz.prog T=some z)(hzt:z.cells.toList=t.zeros:=by rfl)(hn:Nat.blt d A.n=true:=by rfl)(hfr:Fresh s k:=by exact Fresh.of rfl)(hk0:A.k0≤k:=by exact nlr rfl):Does A Tryz.prog ⟨some d, .alloc T,ty,pos,af,g⟩ s (s.new d k (.ptr k 0) (.box T t.zlv)):=Xp k t hz hzt hn hfr hk0
theorem e1_ {i:Nat}{b:Bool}{ls:List LV}(h:lk s.tm i=some (.cm b ls):=by rfl):EvL A s [.tmp i] [(b,ls)]:=⟨_,_,rfl,Qf h,rfl⟩
theorem e2_ {i j:Nat}{b c:Bool}{ls ms:List LV}(h:lk s.tm i=some (.cm b ls):=by rfl)(k:lk s.tm j=some (.cm c ms):=by rfl):EvL A s [.tmp i, .tmp j] [(b,ls),(c,ms)]:=⟨_,_,rfl,Qf h,_,_,rfl,Qf k,rfl⟩
theorem Quw {P:Program}{c:Code}{Q:Exit→St→Prop}(h:AC A P c Q s):AC A P c Q s:=h
theorem w_ {G G':Prop}(k:G')(h:G'→G:=by
    first
    | ((with_reducible apply lm); rfl; rfl)
    | ((with_reducible apply lgn); rfl; rfl; rfl)
    | ((with_reducible apply lc); exact D_)
    | ((with_reducible apply lgy); rfl; rfl; exact D_)
    | (with_reducible exact Qrb)
    | (with_reducible exact QuA)
    | (with_reducible exact Yd)
    | ((with_reducible apply Qqo); exact Qa rfl)
    | ((with_reducible apply QpG); exact Qa rfl)
    | (with_reducible exact Qqh)
    | (with_reducible exact Qp3)
    | (with_reducible exact QfF)
    | (with_reducible exact AC.skip)
    | (with_reducible exact QlQ)
    | (with_reducible exact Zf)
    | exact Quw):G:=h k
end
def rlm:Nat→List Nat→List Nat
  | _,[]=>[]
  | b,r :: rs=>Nat.sub (Nat.sub b 1) r :: rlm (Nat.mul 2 b) rs
def QkE (l:List Oper)(plan:List Item)(deps:List (List Nat)):Bool:=Nat.beq l.length plan.length&&(QeI l.toArray deps plan.length&&Qfg plan deps&&Qam l.toArray plan.length)
def ActsH (A:Amb)(P:Program)(l0:List Oper)(plan:List Item)(deps:List (List Nat))(s0:St):List Oper→List Item→Nat→Prop
  | o :: l,it :: p,i=>(∀s,At plan deps s0 i s→Acts A P l0.toArray o s (QaO s it))∧ActsH A P l0 plan deps s0 l p (i+1)
  | [],_,_=>QkE l0 plan deps=true
  | _ :: _,[],_=>QkE l0 plan deps=true
section
variable {A:Amb}{P:Program}{s s' s0:St}{Q:Exit→St→Prop}{l0 l:List Oper}{o:Oper}{it:Item}{p plan:List Item}{deps:List (List Nat)}{i:Nat}
theorem ActsH.to:∀{l:List Oper} {p:List Item} {i:Nat},ActsH A P l0 plan deps s0 l p i→ActsL A P l0.toArray plan deps s0 l p i∧QkE l0 plan deps=true
  | _ :: _,_ :: _,_,h=>⟨⟨h.1,(ActsH.to h.2).1⟩,(ActsH.to h.2).2⟩
  | [],_,_,h=>⟨trivial,h⟩
  | _ :: _,[],_,h=>⟨trivial,h⟩
theorem QuG {q:Nat}(hs:At plan deps s0 i s)(h:(se plan deps s0 i q).isSome=true):(s.tab.ent q).isSome=true:=by
  obtain ⟨x,hx⟩:=aX.1 h
  rw[hs.n _ hx]; rfl
theorem DH_ (h:Does A Tryz.prog o s s':=by
    first
    | ((with_reducible apply QdR); exact At.v ‹_› rfl; (first | exact At.w ‹_› rfl | exact Evl.ev Zg | exact Evl.ev (Qu rfl)); rfl)
    | ((with_reducible apply Qdj); exact At.v ‹_› rfl; (first | exact At.w ‹_› rfl | exact Evl.ev Zg | exact Evl.ev (Qu rfl)); rfl)
    | ((with_reducible apply Xs); exact At.v ‹_› rfl; exact At.n ‹_› _ rfl; exact KW rfl; rfl; rfl)
    | ((with_reducible apply JG); exact At.v ‹_› rfl; exact At.n ‹_› _ rfl; exact KW rfl; rfl; rfl)
    | ((with_reducible apply JL); exact At.k ‹_› rfl; rfl)
    | ((with_reducible apply Us); exact At.k ‹_› rfl; rfl)
    | ((with_reducible apply Qbn); exact At.k ‹_› rfl; rfl; rfl)
    | ((with_reducible apply QeJ); (first | exact Qu rfl | exact Zg | exact Evl.str rfl | exact Evl.val); rfl)
    | ((with_reducible apply Ws); (first | exact Qu rfl | exact Zg | exact Evl.str rfl | exact Evl.val); rfl)
    | ((with_reducible apply Qen); exact At.v ‹_› rfl; exact KW rfl; rfl; rfl)
    | ((with_reducible apply Qcg); exact At.v ‹_› rfl; exact KW rfl; rfl; rfl)
    | ((with_reducible apply Qcj); exact At.v ‹_› rfl; exact Qos rfl rfl; rfl)
    | ((with_reducible apply QiO); exact At.v ‹_› rfl; rfl; exact Qhh rfl)
    | ((with_reducible apply Qf4); exact At.v ‹_› rfl; exact At.n ‹_› _ rfl; rfl; exact Qhh rfl)
    | ((with_reducible apply QiF); (first | exact At.v ‹_› rfl | exact Qu rfl); (first | exact At.v ‹_› rfl | exact Qu rfl); rfl)
    | ((with_reducible apply VT); (first | exact At.v ‹_› rfl | exact Qu rfl); (first | exact At.v ‹_› rfl | exact Qu rfl); rfl)
    | ((with_reducible apply Qav); (first | exact At.v ‹_› rfl | exact Qu rfl); (first | exact At.v ‹_› rfl | exact Qu rfl); rfl)
    | ((with_reducible apply QhR); (first | exact At.v ‹_› rfl | exact Qu rfl); (first | exact At.v ‹_› rfl | exact Qu rfl); rfl)
    | ((with_reducible apply QaE); (first | exact At.v ‹_› rfl | exact Qu rfl); (first | exact At.v ‹_› rfl | exact Qu rfl); rfl)
    | ((with_reducible apply QhL); (first | exact At.v ‹_› rfl | exact Qu rfl); (first | exact At.v ‹_› rfl | exact Qu rfl); rfl)
    | ((with_reducible apply XS); (first | exact At.v ‹_› rfl | exact Qu rfl); (first | exact At.v ‹_› rfl | exact Qu rfl); rfl; omega)
    | ((with_reducible apply Vi); (first | exact At.v ‹_› rfl | exact Qu rfl); (first | exact At.v ‹_› rfl | exact Qu rfl); rfl; omega)
    | ((with_reducible apply Qi7); exact At.v ‹_› rfl; rfl)
    | ((with_reducible apply VG); (first | exact At.v ‹_› rfl | exact Evl.str rfl); (first | exact At.v ‹_› rfl | exact Evl.str rfl); rfl)
    | ((with_reducible apply Qgo); (first | exact At.v ‹_› rfl | exact Evl.str rfl); (first | exact At.v ‹_› rfl | exact Evl.str rfl); rfl)
    | ((with_reducible apply Qt); exact At.v ‹_› rfl; exact At.v ‹_› rfl; rfl)
    | ((with_reducible apply Q7); exact At.v ‹_› rfl; exact At.v ‹_› rfl; rfl)
    | ((with_reducible apply ZN); exact At.v ‹_› rfl; exact Qos rfl rfl; exact QuG ‹_› rfl; rfl)
    | ((with_reducible apply Wo); exact At.v ‹_› rfl; exact QuG ‹_› rfl; rfl)
    | ((with_reducible apply Uq); (first | exact At.v ‹_› rfl | exact Evl.str rfl); (first | exact At.v ‹_› rfl | exact Qu rfl); rfl; exact Qu1 rfl; omega; assumption)
    | ((with_reducible apply Qcb); exact At.v ‹_› rfl; (first | exact At.v ‹_› rfl | exact Qu rfl); exact Qhh rfl; exact KW rfl; rfl; omega; assumption)
    | ((with_reducible apply QZ); exact At.v ‹_› rfl; exact At.n ‹_› _ rfl; (first | exact At.w ‹_› rfl | exact Evl.ev (Qu rfl) | exact Evl.ev Zg); rfl; exact KW rfl; rfl)):Does A Tryz.prog o s s':=h
theorem zz (h:∀s,At plan deps s0 i s→Acts A P l0.toArray o s (QaO s it))(k:ActsH A P l0 plan deps s0 l p (i+1)):ActsH A P l0 plan deps s0 (o :: l) (it :: p) i:=⟨h,k⟩
theorem z_ (k:ActsH A Tryz.prog l0 plan deps s0 l p (i+1))(h:∀s,At plan deps s0 i s→Acts A Tryz.prog l0.toArray o s (QaO s it):=by
    first
    | ((with_reducible apply dxm); rfl; rfl)
    | ((with_reducible apply dxf); exact Qos rfl rfl; rfl; rfl; rfl)
    | ((with_reducible apply dxl); exact KW rfl; rfl; rfl; rfl; rfl; rfl)
    | ((with_reducible apply dxt); rfl; rfl)
    | ((with_reducible apply dxn); rfl; rfl; rfl)
    | ((with_reducible apply dxa); exact KW rfl; rfl; rfl; rfl; rfl)
    | ((with_reducible apply dxo); rfl; rfl; rfl)
    | (intro _ _; (apply ac); exact DH_; rfl)
    | (intro _ _; (apply day); rfl; exact At.k ‹_› rfl; exact DH_; rfl)
    | (intro _ _; (apply Qsi); rfl; rfl; exact At.k ‹_› rfl; rfl; rfl)):ActsH A Tryz.prog l0 plan deps s0 (o :: l) (it :: p) i:=⟨h,k⟩
theorem zN (h:QkE l0 plan deps=true:=by kernel_rfl):ActsH A Tryz.prog l0 plan deps s0 [] [] i:=h
theorem dW {id:Nat}{y:Code}(plan:List Item)(ms:List Nat)(H:ActsH A Tryz.prog l plan (dms (rlm 1 ms)) s0 l plan 0)(k:AC A Tryz.prog y Q (stD plan s0 fun _=>true)):AC A Tryz.prog (.seq (.region id l.toArray true) y) Q s0:=by
  obtain ⟨h1,h2⟩:=H.to
  rw[QkE,aG] at h2
  exact dw plan _ mixed (aT h2.1) h2.2 h1 k
theorem dV {id:Nat}(plan:List Item)(ms:List Nat)(H:ActsH A Tryz.prog l plan (dms (rlm 1 ms)) s0 l plan 0)(k:Q .normal (stD plan s0 fun _=>true)):AC A Tryz.prog (.region id l.toArray true) Q s0:=by
  obtain ⟨h1,h2⟩:=H.to
  rw[QkE,aG] at h2
  exact dv plan _ mixed (aT h2.1) h2.2 h1 k
theorem dZ {id:Nat}{y:Code}{Q':Exit→St→Prop}(plan:List Item)(ms:List Nat)(H:ActsH A Tryz.prog l plan (dms (rlm 1 ms)) s0 l plan 0)(k:AC A Tryz.prog y Q' (stD plan s0 fun _=>true)):AC A Tryz.prog (.region id l.toArray true) (Qci (AC A Tryz.prog y Q') Q) s0:=by
  obtain ⟨h1,h2⟩:=H.to
  rw[QkE,aG] at h2
  exact dz plan _ mixed (aT h2.1) h2.2 h1 k
end
section
variable {A:Amb}{s:St}{f:FuncId}{xs:List Operand}{tys:Array TypeId}{args:List (Bool×List LV)}{d k:Nat}{ty T:TypeId}{pos:String}{af:Array Edge}{g:Option (Nat×Bool)}{pv:PV}{U U':Tab}{x y:Operand}
theorem evN:EvL A s [] []:=rfl
theorem evC {c:Bool×List LV}{cs:List (Bool×List LV)}(h:Ev A s x c)(k:EvL A s xs cs):EvL A s (x :: xs) (c :: cs):=⟨_,_,rfl,h,k⟩
theorem ebN:EvLB A s [] []:=rfl
theorem ebC {c:Bool×List LV}{cs:List (Bool×List LV)}(h:EvB A s x c)(k:EvLB A s xs cs):EvLB A s (x :: xs) (c :: cs):=⟨_,_,rfl,h,k⟩
theorem abN {e:Ty}:AbsL U e [] [] []:=⟨rfl,rfl⟩
theorem abC {e:Ty}{c:Bool×List LV}{cs:List (Bool×List LV)}{z:e.Den}{zs:List e.Den}{u1 u2:List Nat}(h:Abs U e c.2 z u1)(k:AbsL U e cs zs u2):AbsL U e (c :: cs) (z :: zs) (u1++u2):=⟨_,_,_,_,rfl,h,k,rfl⟩
theorem dK (hc:FC Tryz.prog f args [] 0 (Zk pv))(hE:Qk Tryz.prog f)(ha:EvL A s xs args:=by repeat' first | exact evN | exact Qf rfl | exact At.w ‹_› rfl | exact Evl.ev (Qu rfl) | exact Evl.ev Zg | exact Evl.ev (Evl.str rfl) | apply evC)(ht:pv.tags=[]:=by rfl)(hn:Nat.blt d A.n=true:=by rfl):Does A Tryz.prog ⟨some d, .call ⟨.value (.func f),xs.toArray,tys⟩,ty,pos,af,g⟩ s (s.put d pv):=JO hc hE ha ht hn
theorem dB_ (hc:FC Tryz.prog f args [] 0 (Zk pv))(hE:Qk Tryz.prog f)(ha:EvLB A s xs args:=by repeat' first | exact ebN | exact Ev.b (Qf rfl) | exact Ev.b (At.w ‹_› rfl) | exact Ev.b (Evl.ev (Qu rfl)) | exact Ev.b (Evl.ev Zg) | exact Ev.b (Evl.ev (Evl.str rfl)) | exact Qg8 (Qa rfl) rfl | exact Qg8 (At.v ‹_› rfl) (At.n ‹_› _ rfl) | apply ebC)(ht:pv.tags=[]:=by rfl)(hf:pv.fl=true:=by rfl)(hn:Nat.blt d A.n=true:=by rfl):Does A Tryz.prog ⟨some d, .call ⟨.value (.func f),xs.toArray,tys⟩,ty,pos,af,g⟩ s (s.put d pv):=XA hc hE ha ht hf hn
theorem dO (t:Nat){E:TypeId}{e:Ty}{zs:List e.Den}(hc:FC Tryz.prog f args [] 0 (Xe E e zs))(hE:Qk Tryz.prog f)(ha:EvL A s xs args:=by repeat' first | exact evN | exact Qf rfl | exact At.w ‹_› rfl | exact Evl.ev (Qu rfl) | exact Evl.ev Zg | exact Evl.ev (Evl.str rfl) | apply evC)(hn:Nat.blt d A.n=true:=by rfl)(hfr:Fresh s t:=by first | exact Fresh.of rfl | exact At.fr ‹_› _ rfl)(hk0:A.k0≤t:=by exact nlr rfl):Does A Tryz.prog ⟨some d, .call ⟨.value (.func f),xs.toArray,tys⟩,ty,pos,af,g⟩ s (s.mk_ d t [] E e zs):=QkK t hc hE ha hn hfr hk0
theorem dOB (t:Nat){E:TypeId}{e:Ty}{zs:List e.Den}(hc:FC Tryz.prog f args [] 0 (Xe E e zs))(hE:Qk Tryz.prog f)(ha:EvLB A s xs args:=by repeat' first | exact ebN | exact Ev.b (Qf rfl) | exact Ev.b (At.w ‹_› rfl) | exact Ev.b (Evl.ev (Qu rfl)) | exact Ev.b (Evl.ev Zg) | exact Ev.b (Evl.ev (Evl.str rfl)) | exact Qg8 (Qa rfl) rfl | exact Qg8 (At.v ‹_› rfl) (At.n ‹_› _ rfl) | apply ebC)(hn:Nat.blt d A.n=true:=by rfl)(hfr:Fresh s t:=by first | exact Fresh.of rfl | exact At.fr ‹_› _ rfl)(hk0:A.k0≤t:=by exact nlr rfl):Does A Tryz.prog ⟨some d, .call ⟨.value (.func f),xs.toArray,tys⟩,ty,pos,af,g⟩ s (s.mk_ d t [] E e zs):=Jk t hc hE ha hn hfr hk0
theorem dG (n:Nat)(hc:FC Tryz.prog f args [] 0 (Is pv U))(hE:Qk Tryz.prog f)(ha:EvL A s xs args:=by repeat' first | exact evN | exact Qf rfl | exact At.w ‹_› rfl | exact Evl.ev (Qu rfl) | exact Evl.ev Zg | exact Evl.ev (Evl.str rfl) | apply evC)(hcl:YG pv U=true:=by rfl)(hn:Nat.blt d A.n=true:=by rfl)(hfr:FrL s n (ZX U):=by repeat' first | exact trivial | exact Fresh.of rfl | exact At.fr ‹_› _ rfl | apply And.intro)(hk0:A.k0≤n:=by exact nlr rfl):Does A Tryz.prog ⟨some d, .call ⟨.value (.func f),xs.toArray,tys⟩,ty,pos,af,g⟩ s (s.back d n pv U):=Qkp n hc hE ha hcl hn hfr hk0
theorem dP (n:Nat)(ρ:List (Nat×Nat))(hc:FC Tryz.prog f args U k (Is pv U'))(hE:Qk Tryz.prog f)(ha:EvL A s xs (args.map fun c=>(c.1,c.2.map (LV.ren (rn ρ)))):=by repeat' first | exact evN | exact Qf rfl | exact At.w ‹_› rfl | exact Evl.ev (Qu rfl) | exact Evl.ev Zg | exact Evl.ev (Evl.str rfl) | apply evC)(hT:HasE s ρ U:=by repeat' first | exact rfl | exact trivial | exact At.n ‹_› _ rfl | apply And.intro)(hB:(Vg (U.map fun p=>rn ρ p.1)&&YG pv U'&&Vg (U'.map fun p=>sg ρ k n p.1)&&Qiv U U' k&&Nat.blt d A.n)=true:=by rfl)(hfr:FrK s n k (ZX U'):=by repeat' first | exact trivial | exact Fresh.of rfl | exact At.fr ‹_› _ rfl | apply And.intro)(hk0:A.k0≤n:=by exact nlr rfl):Does A Tryz.prog ⟨some d, .call ⟨.value (.func f),xs.toArray,tys⟩,ty,pos,af,g⟩ s (s.backP d (sg ρ k n) (U.map fun p=>rn ρ p.1) pv U'):=Qj8 n ρ hc hE ha hT hB hfr hk0
theorem dA {q q2:Nat}{E:TypeId}{e:Ty}{us ys:List e.Den}(t:Nat)(hE:WL Tryz.prog E e.wd=true)(hx:Evl A s x (.ref q):=by first | exact Qa rfl | exact At.v ‹_› rfl)(he:s.tab.ent q=some (.arr E e us):=by first | exact rfl | exact At.n ‹_› _ rfl)(hy:Evl A s y (.ref q2):=by first | exact Qa rfl | exact At.v ‹_› rfl)(he2:s.tab.ent q2=some (.arr E e ys):=by first | exact rfl | exact At.n ‹_› _ rfl)(hne:Nat.beq q q2=false:=by rfl)(hT:Tryz.prog.underlying T=some (.slice E):=by exact Qhh rfl)(hb:us.length+ys.length≤1073741824:=by first | omega | (simp only[aa,aF,ak,ao,aD]; omega) | (simp only[aa,bn,ak,ao,aD]; omega))(hn:Nat.blt d A.n=true:=by rfl)(hfr:Fresh s t:=by first | exact Fresh.of rfl | exact At.fr ‹_› _ rfl)(hk0:A.k0≤t:=by exact nlr rfl):Does A Tryz.prog ⟨some d, .call {callee:= .builtin .append,args:= #[x,y],argTypes:= #[T,T]},ty,pos,af,g⟩ s (s.mk_ d t [q,q2] E e (us++ys)):=Qjd t hx he hy he2 hne hT hE hb hn hfr hk0
theorem dBs (t:Nat){E:TypeId}{e:Ty}{n:Nat}{parts:Array (Nat×Operand)}{css:List (Bool×List LV)}{us:List e.Den}{used:List Nat}{bb:Bool}{z:Value}(hz:zer Tryz.prog E=some z)(hT:Tryz.prog.underlying T=some (.slice E):=by exact Qhh rfl)(hE:tsh Tryz.prog E=some (bb,e.wd):=by exact KW rfl)(hpn:parts.toList.map (·.1)=List.range n:=by rfl)(hv:EvL A s (parts.toList.map (·.2)) css:=by repeat' first | exact evN | exact Qf rfl | exact At.w ‹_› rfl | exact Evl.ev (Qu rfl) | exact Evl.ev Zg | exact Evl.ev (Evl.str rfl) | apply evC)(hok:∀c∈css,Q6 s.tab c.2=true:=by exact ah.1 rfl)(hab:AbsL s.tab e css us used:=by repeat' first | exact abN | exact ⟨rfl,rfl⟩ | apply abC)(hun:used.Nodup:=by decide)(hsz:Nat.ble (n*e.wd) 16777216=true:=by rfl)(hn:Nat.blt d A.n=true:=by rfl)(hfr:Fresh s t:=by first | exact Fresh.of rfl | exact At.fr ‹_› _ rfl)(hk0:A.k0≤t:=by exact nlr rfl):Does A Tryz.prog ⟨some d, .buildSlice T n parts,ty,pos,af,g⟩ s (s.mk_ d t used E e us):=Vo t hT hE hz hpn hv hok hab hun hsz hn hfr hk0
end
end Go.Proofs.YtjaadeknhofhpaaGreat
namespace Go.Proofs.YtjaadeknhofhpaaGreat
open Go.RowKit
section
variable {A:Amb}{s:St}
theorem QrH {p:Nat}{E':TypeId}{cs:List LV}(cs':List LV)(hp:s.tab.ent p=some (.box E' cs))(k:Qma cs cs'):Wk A s ⟨s.tm,(p,some (.box E' cs')) :: s.tab⟩:=fun a w r=>by
  obtain ⟨gh,r⟩:=r
  obtain ⟨g,cur,h1,h2,h3,h4⟩:=r.cx.en p _ hp
  exact ⟨gh,r.mod hp (ZP w) (fun _ _ _=>rfl) ⟨g,cur,h1,h2,h3,h4.nils k⟩⟩
end
end Go.Proofs.YtjaadeknhofhpaaGreat
namespace Go.Proofs.YtjaadeknhofhpaaGreat
open Go.RowKit
section
variable {A:Amb}{P:Program}{s:St}{x y z:Operand}{d:Nat}{T T' ty:TypeId}{pos:String}{af:Array Edge}{g:Option (Nat×Bool)}
def QuQ (P:Program)(T:TypeId)(offs:List (Nat×Nat))(zs:List Value):Prop:=
  ∃fs,P.underlying T=some (.struct fs)∧(∀w,(fs.mapM fun (f:Field)=>do pure (f.offset,← sizeOf f.type)).run P w= .ok offs.toArray w)∧zer P T=some (.agg zs.toArray)
theorem Qsc {fs:List Field}{offs:List (Nat×Nat)}{zs:List Value}(hu:P.underlying T=some (.struct fs.toArray))(hp:plB P fs offs=true)(hz:zer P T=some (.agg zs.toArray)):QuQ P T offs zs:=
  ⟨_,hu,fun w=>by
    rw[List.mapM_toArray]
    have:=Kt (P:=P) (w:=w) hp
    simp only[map_eq_pure_bind,aw,this,aC,aY],hz⟩
theorem QlN (al:Nat→Prop)(gh:Gh)(w:World):∀zs:List Value,LVs al gh w (zs.map LV.val) zs
  | []=>rfl
  | z :: zs=>⟨z,zs,rfl,rfl,QlN al gh w zs⟩
theorem Qh0 {zs:List Value}{offs:List (Nat×Nat)}{parts:Array (Nat×Operand)}{css:List (Bool×List LV)}{ls:List LV}(hb:QuQ P T offs zs)(hv:EvL A s (parts.toList.map (·.2)) css)(hok:∀c∈css,Q6 s.tab c.2=true)
    (hf:Qga offs (zs.map LV.val) ((parts.toList.map (·.1)).zip (css.map (·.2)))=some ls) (hn:Nat.blt d A.n=true):Does A P ⟨some d, .build T parts,ty,pos,af,g⟩ s (s.put d (ag ls)):=
  Qn rfl hn fun gh a w r=>by
    obtain ⟨fs,h1,h2,h3⟩:=hb
    have hvs:=hv.cms r
    have hlen:=hvs.len
    generalize hV:(parts.toList.map (·.2)).map a.eval=vs at*
    have hpl:parts.toList.length=vs.length:=by rw[← hV]; simp
    have hcells:∀(cs:List (Bool×List LV)) (vs:List Value),CmsR s.tab.al gh w cs vs→(∀c∈cs,Q6 s.tab c.2=true)→∀(i:Nat) (c:Bool×List LV) (v:Value),cs[i]? =some c→vs[i]? =some v→∃us,v.cells=us.toArray∧LVs s.tab.al gh w c.2 us:=by
      intro cs
      induction cs with
      | nil=>intro vs _ _ i c v h; simp at h
      | cons c cs ih=>
        rintro vs ⟨v,vs',rfl,k1,k2⟩ hok i c' v' hc hv'
        cases i with
        | zero=>
          simp at hc hv'
          subst hc; subst hv'
          have hc:=hok c (aA ..)
          obtain ⟨b,ls⟩:=c
          exact CmR.cells k1 fun hb=>by
            subst hb
            obtain ⟨l,rfl,q1⟩:=k1
            simp only[Q6,cN] at hc
            obtain ⟨h3,h4⟩:=Vz hc
            exact q1.oneCell h4 h3 fun q ⟨e,he⟩=>(r.cx.en q e he).oneCell
        | succ i=>exact ih vs' k2 (fun c hc=>hok c (ax _ hc)) i c' v' (by simpa using hc) (by simpa using hv')
    have hzl:((parts.toList.map (·.1)).zip (css.map (·.2))).length=vs.length:=by rw[List.length_zip,aF,aF]; omega
    obtain ⟨cur',k1,k2⟩:=QaC (al:=s.tab.al) (gh:=gh) (w:=w) (cur:=zs.toArray) hf hzl.symm (fun i p v hp hv'=>by
      have hi:=List.getElem?_zip_eq_some.1 hp
      have h5:=hi.2
      rw[b6] at h5
      obtain ⟨c',h6,h7⟩:=bL.1 h5
      rw[← h7]
      exact hcells css vs hvs hok i c' v h6 hv') (by simpa using QlN s.tab.al gh w zs)
    refine ⟨.agg cur', ?_,cur'.toList,by simp,k2⟩
    have hz:(((parts.toList.map (·.1)).zip (css.map (·.2))).map (·.1)).zip vs=(parts.map fun p=>(p.1,a.eval p.2)).toList:=by
      rw[List.map_fst_zip (by rw[aF,aF]; omega),cP,← hV,d9]
      generalize parts.toList=pl
      induction pl with
      | nil=>rfl
      | cons p ps ih=>simp[ih]
    rw[hz] at k1
    simp only[execOp,Instr.build,aw,VP h3,aC,run_underlying h1,h2,Value.cells]
    rw[k1]
    simp
end
theorem JH {A:Amb}{P:Program}{s:St}{fn:Func}(hr:fn.results= #[]):Res A P fn s (.tup []):=fun gh a w g=>by
  refine ⟨.tuple #[], ?_,[],rfl,rfl⟩
  rw[KM,hr]; simp[V9,Sem.run_bind]
section
variable {A:Amb}{P:Program}{s:St}{x y z:Operand}{d:Nat}{T T' ty:TypeId}{pos:String}{af:Array Edge}{g:Option (Nat×Bool)}
variable {E:TypeId}{e:Ty}{xs:List e.Den}{q lo n:Nat}
theorem OwnL.takeW {w:World}(hf:e.flat=true):∀{xs:List e.Den} {fp:List Nat} {cs:List Value} (k:Nat),OwnL (Own e w) fp cs xs→OwnL (Own e w) [] (cs.take (k*e.wd)) (xs.take k)
  | [],_,_,k,h=>by rw[h.2]; simp[OwnL]
  | x :: xs,_,_,0,_=>by simp[OwnL]
  | x :: xs,_,_,k+1,⟨f1,f2,c1,c2,h1,h2,h3,h4⟩=>by
    have hl:=h3.len
    have hf1:=Ug hf h3
    subst hf1
    rw[h2]
    refine ⟨[],[],c1,c2.take (k*e.wd),rfl, ?_,h3,OwnL.takeW hf k h4⟩
    rw[Nat.succ_mul,Nat.add_comm,← hl,List.take_length_add_append]
theorem Qes (t i:Nat)(hi:lk s.tm i=some (lf (.sub q e.wd 0 n)))(he:s.tab.ent q=some (.arr E e xs))(hn:n≤xs.length)(hf:e.flat=true)(hfr:Fresh s t)(hk0:A.k0≤t):
    Wk A s ⟨(i,lf (.ref t)) :: s.tm,(t,some (.arr E e (xs.take n))) :: (q,none) :: s.tab⟩:=fun a w r=>by
  obtain ⟨gh,r⟩:=r
  obtain ⟨v,h1,l,h2,h3⟩:=r.tm i _ hi
  simp only[aB,and_true] at h2
  subst h2
  obtain ⟨B,m,c,q1,q2⟩:=h3 ⟨_,he⟩
  have hO:Own (.sl E e) w (gh.f q) [gh.h q] xs:=r.cx.en q _ he
  have hv:v= .slice B n c:=by
    rw[q2]
    congr 1
    split
    · rfl
    · cases B with
      | none=>rfl
      | some b=>cases b; simp[Addr.add]
  have hO':Own (.sl E e) w (gh.f q) [v] (xs.take n):=by
    rcases hO with ⟨k1,k2,k3⟩ | ⟨b,cap,cur,fps,p2,p3,p4,p5,p6,p7,p8⟩
    · subst k3
      simp only[aB,and_true] at k2
      rw[q1] at k2
      simp only[Value.slice.injEq] at k2
      obtain ⟨rfl,rfl,rfl⟩:=k2
      have:n=0:=by simpa using hn
      subst this
      exact .inl ⟨k1,by rw[hv],by simp⟩
    · have hfp := p8.fp0 hf
      subst hfp
      simp only[aB,and_true] at p3
      rw[q1] at p3
      simp only[Value.slice.injEq] at p3
      obtain ⟨rfl,rfl,rfl⟩:=p3
      have hl:(xs.take n).length=n:=by rw[ak]; omega
      refine .inr ⟨b,c,cur,[],p2,by rw[hv,hl],p4,by rw[hl]; omega,p6,p7, ?_⟩
      rw[hl]
      have:=p8.takeW hf n
      rwa [List.take_take,cv (cc _ hn)] at this
  have r2:=r.make t hfr hk0 [q] (fun q' h=>by rw[aK.1 h]; exact ⟨_,he⟩) (ZP w) (fun _ _ _=>rfl) hO' (r.cx.nd q ⟨_,he⟩) (fun g hg=> .inr ⟨q,aK.2 rfl,hg⟩)
  exact ⟨_,r2.know h1 (pv:=lf (.ref t)) ⟨_,rfl,fun _=>by simp⟩⟩
theorem Qet (z:Array Value)(n:Nat):Builtin.zeroCells z n=madeCells z (n*z.size):=rfl
theorem Qck {Tl E':TypeId}{zv:Value}(hx:Evl A s x (.sub q e.wd lo n))(he:s.tab.ent q=some (.arr E e xs))(hb:lo+n=xs.length)(hT:P.underlying Tl=some (.slice E'))(hz:zer P E'=some zv)(hzc:zv.cells.toList=e.zeros)(hzo:e.zeros.all (·.oneCell')=true)(hf:e.flat=true):
    Does A P ⟨none, .call ⟨.builtin .clear, #[x], #[Tl]⟩,ty,pos,af,g⟩ s ⟨s.tm,(q,some (.arr E e (xs.take lo++List.replicate n e.zero))) :: s.tab⟩:=fun a w K Q r hK=>by
  obtain ⟨gh,r⟩:=r
  have hO:Own (.sl E e) w (gh.f q) [gh.h q] xs:=r.cx.en q _ he
  have hO0:=hO
  obtain ⟨B,m,c,q1,q2⟩:=hx gh a w r ⟨_,he⟩
  have hzl:e.zeros.length=e.wd:=(Z0 e w).len
  have hzs:zv.cells=e.zeros.toArray:=by rw[← hzc]
  rcases Nat.eq_zero_or_pos n with hn0 | hn0
  · subst hn0
    have hxs:xs.take lo++List.replicate 0 e.zero=xs:=by rw[br (by omega)]; simp
    have e0:(execOp a.eval ⟨none, .call ⟨.builtin .clear, #[x], #[Tl]⟩,ty,pos,af,g⟩).run P w= .ok (.value (.tuple #[])) w:=by
      simp only[execOp,resolve,invoke,builtin,q2,aw,aY,aC,d7,bf,d6]
      generalize (if c=lo then B else B.map (·.add (lo*e.wd)))=BB
      cases BB <;> simp[Builtin.clear_,run_underlying hT]
    unfold Oper.wp
    rw[e0,Oper.upon_value]
    refine hK _ _ ⟨gh,r.mod he (ZP w) (fun _ _ _=>rfl) ?_⟩
    rw[hxs]
    exact hO0
  · rcases hO with ⟨_, _, h⟩ | ⟨b, cap, cur, fps, p2, p3, p4, p5, p6, p7, p8⟩
    · subst h; simp at hb; omega
    have hfp:=p8.fp0 hf
    subst hfp
    simp only[aB,and_true] at p3
    rw[q1] at p3
    simp only[Value.slice.injEq] at p3
    obtain ⟨rfl,rfl,rfl⟩:=p3
    rw[if_neg (by omega)] at q2
    simp only[cU,Addr.add_lit,bP] at q2
    have hzz:(Builtin.zeroCells zv.cells n).toList=(List.replicate n e.zeros).flatten:=by
      have h2:=Qch e.zeros n (by rw[hzl]; exact VE e)
      rw[Qet,hzs,List.size_toArray,h2]
    have hfl:((List.replicate n e.zeros).flatten).length=n*e.wd:=by simp[hzl]
    have hwd:=cc e.wd p5
    have hle:lo*e.wd+n*e.wd=xs.length*e.wd:=by rw[← hb,bw]
    have hst:=V1 (P:=P) (b:=b) (E:=E) ((List.replicate n e.zeros).flatten) (lo*e.wd) 0 w cur p4 (by rw[hfl,p7]; omega) (fun v hv=>by
      obtain ⟨l,hl,hv⟩:=List.mem_flatten.1 hv
      rw[cG hl] at hv
      exact ah.1 hzo v hv)
    rw[cA] at hst
    have e0:(execOp a.eval ⟨none, .call ⟨.builtin .clear, #[x], #[Tl]⟩,ty,pos,af,g⟩).run P w= .ok (.value (.tuple #[])) (WE w b (lo*e.wd) ((List.replicate n e.zeros).flatten)):=by
      obtain ⟨n,rfl⟩:∃k,n=k+1:=⟨n - 1,by omega⟩
      simp only[execOp,resolve,invoke,builtin,q2,aw,aY,aC,d7,bf,d6]
      simp[Builtin.clear_,run_underlying hT,VP hz,hzz,hst]
    unfold Oper.wp
    rw[e0,Oper.upon_value]
    obtain ⟨cur',m1,m2,m3⟩:=VH b E (0,0) ((List.replicate n e.zeros).flatten) w (lo*e.wd) cur p4 (by rw[hfl,p7]; omega)
    refine hK _ _ ⟨gh,r.mod he (UK w b _ _) (fun g0 _ hg0=>Y2 w b _ _ g0 fun h=>hg0 (by rw[p2,h]; simp)) ?_⟩
    have hl:(xs.take lo++List.replicate n e.zero).length=xs.length:=by simp; omega
    refine .inr ⟨b,c,cur',[],p2,by rw[q1,hl],m1,by omega,p6,by rw[m2]; exact p7, ?_⟩
    rw[hl]
    have hlist:cur'.toList.take (xs.length*e.wd)=(cur.toList.take (xs.length*e.wd)).take (lo*e.wd)++(List.replicate n e.zeros).flatten:=by
      have h9:=Qcf (l:=cur.toList) (len:=xs.length*e.wd) (lo:=lo*e.wd) (cs:=(List.replicate n e.zeros).flatten) (by rw[hfl]; omega) (by simp; omega)
      rw[m3,h9,hfl,bt (by simp; omega),bo]
    rw[hlist]
    have keep:∀{cs:List Value} {zs:List e.Den},OwnL (Own e w) [] cs zs→OwnL (Own e (WE w b (lo*e.wd) ((List.replicate n e.zeros).flatten))) [] cs zs:=fun h=>h.mono fun f c x hf' ho=>ho.keep fun g hg=>absurd (hf' g hg) (by simp)
    exact (keep (p8.takeW hf lo)).append (OwnL.zeros e _ n)
end
end Go.Proofs.YtjaadeknhofhpaaGreat
namespace Go.Proofs.YtjaadeknhofhpaaGreat
open Go.RowKit
section
variable {A:Amb}{P:Program}{s:St}{x y:Operand}{d:Nat}{T T' ty:TypeId}{pos:String}{af:Array Edge}{g:Option (Nat×Bool)}
theorem Qh7 (op:BinOp)(hop:op= .and∨op= .or)(m n:Nat)(hm:m < 9223372036854775808)(hn:n < 9223372036854775808):bits op .i64 (m:Int) (n:Int)=((if op= .and then m &&& n else m ||| n:Nat):Int):=by
  have h1:(BitVec.ofInt 64 (m:Int)).toNat=m:=by rw[BitVec.ofInt_natCast,BitVec.toNat_ofNat]; exact cd (by omega)
  have h2:(BitVec.ofInt 64 (n:Int)).toNat=n:=by rw[BitVec.ofInt_natCast,BitVec.toNat_ofNat]; exact cd (by omega)
  rcases hop with rfl | rfl
  · have hx : m &&& n < 2 ^ 63 := Nat.and_lt_two_pow _ (by omega)
    show IntKind.i64.wrap ((BitVec.ofInt 64 (m:Int) &&& BitVec.ofInt 64 (n:Int)).toNat:Int)=_
    rw[BitVec.toNat_and,h1,h2,IntWalk.i64_in _ (by omega)]
    rfl
  · have hx : m ||| n < 2 ^ 63 := Nat.or_lt_two_pow (by omega) (by omega)
    show IntKind.i64.wrap ((BitVec.ofInt 64 (m:Int) ||| BitVec.ofInt 64 (n:Int)).toNat:Int)=_
    rw[BitVec.toNat_or,h1,h2,IntWalk.i64_in _ (by omega)]
    rfl
theorem QdS {m n:Int}(hx:Evl A s x (dI m))(hy:Evl A s y (dI n))(hn:Nat.blt d A.n=true)(h0:0≤m)(h00:0≤n):Does A P ⟨some d, .binOp .and T x y T',ty,pos,af,g⟩ s (s.put d (lf (dI ((m.toNat &&& n.toNat:Nat):Int)))):=
  Qn rfl hn fun gh a w r=>by
    have h1:=hx.i r
    have h2:=hy.i r
    have k1:=(LVR.int (hx gh a w r)).2
    have k2:=(LVR.int (hy gh a w r)).2
    have hb:=Qh7 .and (.inl rfl) m.toNat n.toNat (by omega) (by omega)
    rw[ce h0,ce h00] at hb
    have hb:bits .and .i64 m n=((m.toNat &&& n.toNat:Nat):Int):=hb
    have h3:Op.intBits .and .i64 m n=pure (.int .i64 ((m.toNat &&& n.toNat:Nat):Int)):=by rw[← hb]; rfl
    have hx2:m.toNat &&& n.toNat≤m.toNat:=Nat.and_le_left
    refine ⟨.int .i64 ((m.toNat &&& n.toNat:Nat):Int), ?_,_,rfl,Yo (by omega)⟩
    simp only[execOp,h1,h2,eqGuard_at_int,binOp,h3]
    simp
theorem Qr5 {m n:Int}(hx:Evl A s x (dI m))(hy:Evl A s y (dI n))(hn:Nat.blt d A.n=true)(h0:0≤m)(h00:0≤n):Does A P ⟨some d, .binOp .or T x y T',ty,pos,af,g⟩ s (s.put d (lf (dI ((m.toNat ||| n.toNat:Nat):Int)))):=
  Qn rfl hn fun gh a w r=>by
    have h1:=hx.i r
    have h2:=hy.i r
    have k1:=(LVR.int (hx gh a w r)).2
    have k2:=(LVR.int (hy gh a w r)).2
    have hb:=Qh7 .or (.inr rfl) m.toNat n.toNat (by omega) (by omega)
    rw[ce h0,ce h00] at hb
    have hb:bits .or .i64 m n=((m.toNat ||| n.toNat:Nat):Int):=hb
    have h3:Op.intBits .or .i64 m n=pure (.int .i64 ((m.toNat ||| n.toNat:Nat):Int)):=by rw[← hb]; rfl
    have hx2:m.toNat ||| n.toNat < 2 ^ 63:=Nat.or_lt_two_pow (by omega) (by omega)
    refine ⟨.int .i64 ((m.toNat ||| n.toNat:Nat):Int), ?_,_,rfl,Yo (by omega)⟩
    simp only[execOp,h1,h2,eqGuard_at_int,binOp,h3]
    simp
theorem QhZ {m n:Int}(hx:Evl A s x (dI m))(hy:Evl A s y (dI n))(hn:Nat.blt d A.n=true)(h0:0≤n∧n≤62)(hb: -9223372036854775808≤m*2 ^ n.toNat∧m*2 ^ n.toNat≤9223372036854775807):Does A P ⟨some d, .binOp .shl T x y T',ty,pos,af,g⟩ s (s.put d (lf (dI (m*2 ^ n.toNat)))):=
  Qn rfl hn fun gh a w r=>by
    have h1:=hx.i r
    have h2:=hy.i r
    have h3:Op.shift .shl .i64 m .i64 n=pure (.int .i64 (m*2 ^ n.toNat)):=by
      rw[shift_shl_any _ _ _ _ h0.1,show IntKind.i64.bits=64 from rfl,cv (by omega),IntWalk.i64_in _ (by omega)]
    refine ⟨.int .i64 (m*2 ^ n.toNat), ?_,_,rfl,Yo hb⟩
    simp only[execOp,h1,h2,eqGuard_at_int,binOp,h3]
    simp
theorem Qe5 {m n:Int}(hx:Evl A s x (dI m))(hy:Evl A s y (dI n))(hn:Nat.blt d A.n=true)(h0:0≤n∧n≤62)(hm:0≤m):Does A P ⟨some d, .binOp .shr T x y T',ty,pos,af,g⟩ s (s.put d (lf (dI (m / 2 ^ n.toNat)))):=
  Qn rfl hn fun gh a w r=>by
    have h1:=hx.i r
    have h2:=hy.i r
    have k1:=(LVR.int (hx gh a w r)).2
    have h3:Op.shift .shr .i64 m .i64 n=pure (.int .i64 (m / 2 ^ n.toNat)):=by
      rw[shift_shr_any _ _ _ _ h0.1,show IntKind.i64.bits=64 from rfl,cv (by omega)]
    have h4:0≤m / 2 ^ n.toNat:=co hm (ck (by decide))
    have h5:m / 2 ^ n.toNat≤m:=Int.ediv_le_self _ hm
    refine ⟨.int .i64 (m / 2 ^ n.toNat), ?_,_,rfl,Yo (by omega)⟩
    simp only[execOp,h1,h2,eqGuard_at_int,binOp,h3]
    simp
end
end Go.Proofs.YtjaadeknhofhpaaGreat
namespace Go.Proofs.YtjaadeknhofhpaaGreat
open Go.RowKit
theorem Ux:EqT Tryz.prog 2 55 true (.pr .int .bool):=EqT.struct Tryz.underlying55 (by kernel_rfl) (EqFs.cons (by decide) rfl WK (fun _=>rfl) (EqT.int Hy) (EqFs.one (by decide) rfl Qa8 (fun _=>rfl) (EqT.bool JJ)))
theorem Jw:(Tryz.prog.eqGuardType Tryz.prog.depth 55=false)∧2≤10000:=⟨by kernel_rfl,by decide⟩
theorem Qpd:EqT Tryz.prog 3 57 true (.pr (.pr .int .bool) (.pr .int .bool)):=EqT.struct Tryz.underlying57 (by kernel_rfl) (EqFs.cons (by decide) rfl Qeu (fun h=>by cases h) (Ux) (EqFs.one (by decide) rfl Qeu (fun h=>by cases h) (Ux)))
theorem QpS:(Tryz.prog.eqGuardType Tryz.prog.depth 57=false)∧3≤10000:=⟨by kernel_rfl,by decide⟩
theorem Qvc:ZeroV Tryz.prog 3 false .int:=⟨_,YD,rfl⟩
end Go.Proofs.YtjaadeknhofhpaaGreat
namespace Go.Proofs.YtjaadeknhofhpaaGreat
open Go.RowKit
def Vf (xs:List Int):List Int:=xs.mergeSort fun x y=>decide (x≤y)
theorem Qaf (xs:List Int):(Vf xs).Perm xs:=List.mergeSort_perm ..
theorem Qb5 (xs:List Int):(Vf xs).length=xs.length:=(Qaf xs).length_eq
theorem Qca {xs:List Int}{x:Int}:x∈Vf xs↔x∈xs:=(Qaf xs).mem_iff
theorem Qbg (xs:List Int):(Vf xs).Pairwise fun x y=>x≤y:=by
  have h:=List.pairwise_mergeSort (le:=fun x y:Int=>decide (x≤y)) (fun a b c h1 h2=>by simp only[aN] at*; omega) (fun a b=>by simp only[bA,aN]; omega) xs
  exact h.imp fun h=>by simpa using h
theorem Qb0 {w:World}:∀{xs:List Int} {fp:List Nat} {cs:List Value},OwnL (Own .int w) fp cs xs→fp=[]∧cs=xs.map (Value.int .i64)∧∀x∈xs, -9223372036854775808≤x∧x≤9223372036854775807
  | [],fp,cs,h=>⟨h.1,h.2,fun x hx=>by cases hx⟩
  | x :: xs,fp,cs,h=>by
    obtain ⟨f1,f2,l,r,rfl,rfl,⟨rfl,rfl,h1⟩,h2⟩:=h
    obtain ⟨rfl,rfl,h3⟩:=Qb0 h2
    exact ⟨rfl,rfl,fun y hy=>by rcases aH.1 hy with rfl | hy; exact h1; exact h3 y hy⟩
theorem QgG {w:World}:∀{xs:List Int},(∀x∈xs, -9223372036854775808≤x∧x≤9223372036854775807)→OwnL (Own .int w) [] (xs.map (Value.int .i64)) xs
  | [],_=>⟨rfl,rfl⟩
  | x :: xs,h=>⟨[],[],[.int .i64 x],xs.map (Value.int .i64),rfl,rfl,⟨rfl,rfl,h x (aA ..)⟩,QgG fun y hy=>h y (ax _ hy)⟩
def QqO (P:Program)(f:FuncId):Prop:=∀(blk cap:Nat) (zs:List Int) (w:World),Sort.Holds (Value.int .i64) w blk 0 zs.toArray→blk < w.heap.size→zs.length < 4611686018427387904→
  Calls P f #[.slice (some ⟨blk,0,none⟩) zs.length cap] w fun e w'=>e= .returned (.tuple #[])∧∃n os,w'=Sort.grow (Sort.putRow (Value.int .i64) (Sort.ahead w n) blk 0 (Vf zs).toArray) os
def QiX (P:Program)(f:FuncId):Prop:=∀w:World,Calls P f #[.slice none 0 0] w fun e w'=>e= .returned (.tuple #[])∧Nw w w'
theorem QoL {P:Program}{f:FuncId}{E:TypeId}(hS:QqO P f)(hN:QiX P f)(xs:List Int)(hl:xs.length≤1000000000):FC P f [(false,[.ref 0])] [(0,some (.arr E .int xs))] 1 (Is (.tup []) [(0,some (.arr E .int (Vf xs)))]):=fun gh w vs cx ha=>by
  obtain ⟨v,vs',rfl,⟨l,hl_,h1⟩,rfl⟩:=ha
  simp only[aB,and_true] at hl_
  subst hl_
  have hv:v=gh.h 0:=h1 ⟨_,rfl⟩
  subst hv
  have hO:Own (.sl E .int) w (gh.f 0) [gh.h 0] xs:=cx.en 0 _ rfl
  have alq:∀(y:List Int) q,Tab.al [(0,some (Ent.arr E .int y))] q→q=0:=fun y q ⟨e,he⟩=>by
    rw[Qq] at he
    split at he
    · assumption
    · cases he
  rcases hO with ⟨hf,hc,hx⟩ | ⟨g,cap,cur,fps,hf,hc,hb,hn,hcap,hsz,hL⟩
  · simp only [aB, and_true] at hc
    subst hx
    rw[hc]
    refine Calls.mono (hN w) fun e w' he=> ?_
    obtain ⟨rfl,h2⟩:=he
    refine ⟨_,_,_,gh,rfl,⟨rfl,rfl⟩,⟨fun q e he=> ?_,fun q q' hq hq' hne=>absurd ((alq _ q hq).trans (alq _ q' hq').symm) hne,fun q hq=> ?_,fun q hq g hg=> ?_,fun g hg=>bk (cx.nl g hg) h2.size⟩,⟨[],rfl,rfl⟩,
      ⟨h2.grw,fun g hg _=>Below.block h2 g hg,fun g hg=> .inl hg,fun q hq g hg=> ?_⟩,fun q _ _=>rfl⟩
    · rw [Qq] at he
      split at he
      · rename_i e0; subst e0; cases he
        exact .inl ⟨hf,by rw[hc],by simp[Vf]⟩
      · cases he
    · rw[alq _ q hq,hf]; exact bE
    · rw[alq _ q hq,hf] at hg; cases hg
    · rw[alq _ q hq,hf] at hg; cases hg
  · simp only [aB, and_true] at hc
    rw[cH] at hL
    obtain ⟨rfl,ht,hr⟩:=Qb0 hL
    have hg:g < w.heap.size:=(bH.1 hb).1
    rw[hc]
    have hm:xs.length≤9223372036854775807:=by unfold maxLen at hcap; omega
    refine Calls.mono (hS g cap xs w (holds_of_blockI hb ht) hg (by omega)) fun e w' he=> ?_
    obtain ⟨rfl,n,os,rfl⟩:=he
    obtain ⟨k1,k2,k3,k4,k5⟩:=grownBy_sortedI (w:=w) (g:=g) (n:=n) (os:=os) (Vf xs).toArray
    have hlen:=Qb5 xs
    refine ⟨_,_,_,gh,rfl,⟨rfl,rfl⟩,⟨fun q e he=> ?_,fun q q' hq hq' hne=>absurd ((alq _ q hq).trans (alq _ q' hq').symm) hne,fun q hq=> ?_,fun q hq g' hg'=> ?_,fun g' hg'=>bk (cx.nl g' hg') k4⟩,⟨[],rfl,rfl⟩,
      ⟨⟨k1,k2,k3,k4⟩,fun g' h1 h2=> ?_,fun g' h1=> .inl h1,fun q hq g' hg'=> ?_⟩,fun q _ _=>rfl⟩
    · rw [Qq] at he
      split at he
      · rename_i e0; subst e0; cases he
        refine .inr ⟨g,cap,_,[],hf,by rw[hc,hlen],heap_sortedI _ hb,by omega,hcap,by simpa [Sort.putCells] using hsz, ?_⟩
        show OwnL (Own .int _) [] (List.take ((Vf xs).length*1) _) (Vf xs)
        rw[cH,take_putCellsI cur (Vf xs) (by have:cur.size=cap*1:=hsz; omega)]
        exact QgG fun x hx=>hr x (Qca.1 hx)
      · cases he
    · rw[alq _ q hq]; exact cx.nd 0 ⟨_,rfl⟩
    · rw[alq _ q hq] at hg'; exact cx.no 0 ⟨_,rfl⟩ g' hg'
    · exact k5 g' h1 fun e0=>h2 0 ⟨_,rfl⟩ (by rw[hf]; cases e0; exact aA ..)
    · rw[alq _ q hq] at hg'; exact .inr ⟨0,⟨_,rfl⟩,hg'⟩
end Go.Proofs.YtjaadeknhofhpaaGreat
