/- Steps of a walk that are found by themselves: tables of the types, one operation, one step of the control. -/
import Derived.Test.YtgpdhgadmjfokaaGreatGAf
import Derived.Test.YtgpdhgadmjfokaaGreatGAl
import Derived.Test.YtgpdhgadmjfokaaGreatGAu
import Derived.Laws.Shifts
import Derived.Laws.BitsAllLaws
import Derived.Sort.EveryDepth
import Derived.Sort.OwnSortedInts
import Derived.Shelf.Sort.AssemblyIn
set_option linter.unusedSimpArgs false
set_option linter.unusedVariables false
set_option linter.unusedSectionVars false
namespace Go.Proofs.YtgpdhgadmjfokaaGreat
open Go.RowKit
set_option maxRecDepth 100000
theorem Qem {α:Type _}:∀{l:List (Nat×α)} {i:Nat} {x:α},lk l i=some x→(i,x)∈l
  | (j,y) :: l,i,x,h=>by
    rw[Wx] at h
    split at h
    · rename_i e; cases h; subst e; exact aB ..
    · exact aC _ (Qem h)
noncomputable def tshT:List (Nat×Bool×Nat):=[(0,false,1),(2,false,1),(3,false,1),(4,false,1),(5,false,1),(6,false,1),(8,true,4),(9,false,1),(10,false,1),(11,false,1),(12,false,1),(14,true,2),(15,false,1),(16,false,1),(17,false,1),(19,true,1),(20,false,1),(22,false,1),(23,false,1),(24,false,1),(25,false,1),(27,true,3),(28,false,1),(30,false,1),(32,false,1),(33,false,1),(35,false,1),(38,false,1),(41,false,1),(44,true,2),(46,true,4),(47,false,1),(52,false,1),(53,false,1),(57,false,1),(59,true,2),(60,false,1),(62,true,5),(64,false,1),(65,false,1),(67,false,1),(68,false,1),(71,true,3),(72,false,1),(74,false,1),(76,false,1),(79,false,1),(86,true,2),(87,false,1),(90,false,1),(95,false,1),(103,false,1),(107,true,2),(108,false,1),(111,false,1),(113,false,1),(116,false,1),(117,false,1),(119,true,3),(123,false,1),(130,false,1),(134,false,1),(141,true,4),(143,true,7),(144,false,1),(146,false,1),(148,false,1),(154,false,1),(158,false,1),(160,true,2),(161,false,1),(171,false,1),(172,false,1),(190,false,1),(199,false,1),(200,false,1),(201,false,1),(203,true,9),(207,true,2),(208,false,1),(209,false,1),(215,false,1),(221,false,1),(228,false,1),(230,false,1),(231,false,1),(236,false,1),(238,false,1),(241,false,1),(245,true,2),(250,true,6),(255,false,1),(257,false,1),(263,true,3),(265,true,3),(266,false,1),(282,false,1),(285,false,1),(287,true,8),(295,true,2),(298,false,1),(299,false,1),(305,false,1),(314,false,1),(316,false,1),(334,false,1),(335,false,1),(337,false,1),(339,false,1),(341,true,7),(347,false,1),(349,true,3),(352,false,1),(354,true,4),(359,false,1),(366,false,1),(370,false,1),(375,false,1),(378,false,1),(381,false,1),(383,false,1),(386,true,3),(391,false,1),(393,false,1),(397,false,1),(398,false,1),(416,false,1)]
noncomputable def fldT:List (Nat×Nat):=[(512,0),(513,1),(514,2),(515,3),(896,0),(897,1),(1216,0),(1728,0),(1729,1),(1730,2),(2816,0),(2817,1),(2944,0),(2945,1),(2946,2),(2947,3),(3776,0),(3777,1),(3968,0),(3969,2),(3970,3),(3971,4),(4544,0),(4545,1),(4546,2),(5504,0),(5505,1),(6848,0),(6849,1),(7616,0),(7617,1),(7618,2),(9024,0),(9025,2),(9152,0),(9153,4),(10240,0),(10241,1),(12992,0),(12993,3),(12994,4),(12995,7),(12996,8),(13248,0),(13249,1),(15680,0),(15681,1),(16000,0),(16001,2),(16002,3),(16003,4),(16004,5),(16832,0),(16833,1),(16834,2),(16960,0),(16961,1),(16962,2),(18368,0),(18369,3),(18370,4),(18371,5),(18880,0),(18881,1),(21824,0),(21825,5),(21826,6),(22336,0),(22337,1),(22338,2),(22656,0),(22657,1),(22658,2),(22659,3),(24704,0),(24705,1),(24706,2)]
noncomputable def sliT:List (Nat×Nat):=[(22,5),(23,44),(24,9),(25,46),(32,3),(52,141),(57,245),(60,86),(64,71),(67,32),(90,4),(158,263),(201,207),(221,295),(231,143),(266,265),(337,386)]
theorem Qo0:(tshT.all fun p=>decide (tsh Tryz.prog p.1=some p.2))=true:=by kernel_rfl
theorem QpM:(fldT.all fun p=>decide (fld Tryz.prog (p.1 / 64) (p.1 % 64)=some p.2))=true:=by kernel_rfl
noncomputable def strT:List Nat:=[9,10,11]
noncomputable def strB (T:Nat):Bool:=match Tryz.prog.underlying T with
  | some .string=>true
  | _=>false
theorem Qpm:(strT.all strB)=true:=by kernel_rfl
theorem QrI {T:TypeId}(h:inB T strT=true):Tryz.prog.underlying T=some .string:=by
  have h1:=aA.1 Qpm _ (Qeh.1 h)
  unfold strB at h1
  split at h1
  · assumption
  · cases h1
noncomputable def sliB (T E:Nat):Bool:=match Tryz.prog.underlying T with
  | some (.slice E')=>Nat.beq E' E
  | _=>false
theorem QpJ:(sliT.all fun p=>sliB p.1 p.2)=true:=by kernel_rfl
theorem WZ {T:TypeId}{b:Bool}{n:Nat}(h:lk tshT T=some (b,n)):tsh Tryz.prog T=some (b,n):=ab (aA.1 Qo0 _ (Qem h))
theorem Qjt {T f o:Nat}(h:lk fldT (Nat.add (Nat.mul 64 T) f)=some o)(hf:Nat.blt f 64=true):fld Tryz.prog T f=some o:=by
  have h1:=ab (aA.1 QpM _ (Qem h))
  have hf:=aH hf
  rwa [show Nat.add (Nat.mul 64 T) f=64*T+f from rfl,show (64*T+f) / 64=T by omega,show (64*T+f) % 64=f by omega] at h1
theorem QdM {T E:TypeId}(h:lk sliT T=some E):Tryz.prog.underlying T=some (.slice E):=by
  have h1:=aA.1 QpJ _ (Qem h)
  unfold sliB at h1
  split at h1
  · rename_i h2; rw[h2,aZ h1]
  · cases h1
section
variable {A:Amb}{s s':St}{o:Oper}
theorem xlI {d:Nat}{x:Operand}{T ty:TypeId}{pos:String}{af:Array Edge}{g:Option (Nat×Bool)}{q wd i j n:Nat}{E:TypeId}{e t:Ty}{xs:List e.Den}{z:e.Den}{y':t.Den}(hx:Evl A s x (.ept q wd i j))(he:s.tab.ent q=some (.arr E e xs))(hw:wd=e.wd)(hz:xs[i]? =some z)(hf:e.flat=true)(hT:tsh Tryz.prog T=some (false,n))(hl:(leaves e z)[j]? =some (.dat t y'))(hn:Nat.blt d A.n=true):Does A Tryz.prog ⟨some d, .load T x,ty,pos,af,g⟩ s (s.put d (lf (.dat t y'))):=by
  subst hw; exact Q4 hx he hz hf hT hl hn
theorem Qso {d:Nat}{x:Operand}{T ty:TypeId}{pos:String}{af:Array Edge}{g:Option (Nat×Bool)}{q wd i j n:Nat}{E:TypeId}{e:Ty}{xs:List e.Den}{z:e.Den}(hx:Evl A s x (.ept q wd i j))(he:s.tab.ent q=some (.arr E e xs))(hw:wd=e.wd)(hz:xs[i]? =some z)(hf:e.flat=true)(hT:tsh Tryz.prog T=some (true,n))(hl:Nat.ble (j+n) e.wd=true)(hn:Nat.blt d A.n=true):Does A Tryz.prog ⟨some d, .load T x,ty,pos,af,g⟩ s (s.put d (ag (((leaves e z).drop j).take n))):=by
  subst hw; exact QeP hx he hz hf hT hl hn
theorem D_ (h:Does A Tryz.prog o s s':=by
    first
    | ((with_reducible apply Ki); exact Qa rfl; rfl; exact WZ rfl; rfl; rfl)
    | ((with_reducible apply Ug); exact Qa rfl; exact Qjt rfl rfl; rfl; rfl)
    | ((with_reducible apply UB); rfl; rfl)
    | ((with_reducible apply Wv); rfl; rfl)
    | ((with_reducible apply Jt); rfl; rfl; rfl)
    | ((with_reducible apply Ul); exact Qa rfl; rfl; exact WZ rfl; rfl; rfl)
    | ((with_reducible apply QaY); (first | exact Qk rfl | exact Q3 | exact Evl.str rfl | exact Evl.val); rfl)
    | ((with_reducible apply Jn); (first | exact Qk rfl | exact Q3 | exact Evl.str rfl | exact Evl.val); rfl)
    | ((with_reducible apply Qfu); (first | exact Qa rfl | exact Qk rfl); (first | exact Qa rfl | exact Qk rfl); rfl)
    | ((with_reducible apply V6); (first | exact Qa rfl | exact Qk rfl); (first | exact Qa rfl | exact Qk rfl); rfl)
    | ((with_reducible apply Qex); (first | exact Qa rfl | exact Qk rfl); (first | exact Qa rfl | exact Qk rfl); rfl)
    | ((with_reducible apply QfE); (first | exact Qa rfl | exact Qk rfl); (first | exact Qa rfl | exact Qk rfl); rfl)
    | ((with_reducible apply Qfg); (first | exact Qa rfl | exact Qk rfl); (first | exact Qa rfl | exact Qk rfl); rfl)
    | ((with_reducible apply QfN); (first | exact Qa rfl | exact Qk rfl); (first | exact Qa rfl | exact Qk rfl); rfl)
    | ((with_reducible apply Wc); (first | exact Qa rfl | exact Qk rfl); (first | exact Qa rfl | exact Qk rfl); rfl; omega)
    | ((with_reducible apply Wq); (first | exact Qa rfl | exact Qk rfl); (first | exact Qa rfl | exact Qk rfl); rfl; omega)
    | ((with_reducible apply QfC); exact Qa rfl; rfl)
    | ((with_reducible apply QaJ); exact Qa rfl; (first | exact Ql rfl | exact Evl.ev Q3 | exact Evl.ev (Qk rfl)); rfl)
    | ((with_reducible apply QbP); exact Qa rfl; (first | exact Ql rfl | exact Evl.ev Q3 | exact Evl.ev (Qk rfl)); rfl)
    | ((with_reducible apply QbB); exact Qa rfl; exact WZ rfl; rfl; rfl)
    | ((with_reducible apply Hk); exact Qa rfl; exact WZ rfl; rfl; rfl)
    | ((with_reducible apply Hq); exact Qa rfl; exact Qjt rfl rfl; rfl)
    | ((with_reducible apply Z9); exact Qa rfl; exact Qjt rfl rfl; rfl; rfl)
    | ((with_reducible apply JQ); exact Qa rfl; rfl; rfl)
    | ((with_reducible apply QjY); exact Qa rfl; rfl; rfl)
    | ((with_reducible apply Qdn); exact Qa rfl; rfl; rfl; exact QdM rfl)
    | ((with_reducible apply Qez); exact Qa rfl; rfl; exact QdM rfl)
    | ((with_reducible apply Uo); (first | exact Qa rfl | exact Evl.str rfl); (first | exact Qa rfl | exact Evl.str rfl); rfl)
    | ((with_reducible apply Qcv); (first | exact Qa rfl | exact Evl.str rfl); (first | exact Qa rfl | exact Evl.str rfl); rfl)
    | ((with_reducible apply ZE); exact Qa rfl; rfl; (first | exact Ql rfl | exact Evl.ev (Qk rfl) | exact Evl.ev Q3 | exact Evl.ev (Evl.str rfl) | exact Evl.ev (Q6 _ rfl)); rfl; exact WZ rfl; rfl)
    | ((with_reducible apply WH); exact Qa rfl; (first | exact Qa rfl | exact Qk rfl); exact QdM rfl; exact WZ rfl; rfl; omega; assumption)
    | ((with_reducible apply Hh); (first | exact Qa rfl | exact Evl.str rfl); (first | exact Qa rfl | exact Qk rfl); rfl; exact QrI rfl; omega; assumption)
    | ((with_reducible apply QF); exact Qa rfl; rfl; (first | exact Qa rfl | exact Qk rfl); exact QdM rfl; exact WZ rfl; rfl; omega; (first | omega | (simp only[ay]; omega)))
    | ((with_reducible apply xlI); exact Qa rfl; rfl; rfl; assumption; rfl; exact WZ rfl; rfl; rfl)
    | ((with_reducible apply Qso); exact Qa rfl; rfl; rfl; assumption; rfl; exact WZ rfl; rfl; rfl)
    | ((with_reducible apply Zw); exact Qa rfl; exact Qa rfl; rfl)
    | ((with_reducible apply Zh); exact Qa rfl; exact Qa rfl; rfl)):Does A Tryz.prog o s s':=h
theorem xbx {T ty:TypeId}{d:Nat}{x:Operand}{pos:String}{af:Array Edge}{ops:Array Oper}{l:List Oper}{Q:Exit→St→Prop}(t:Nat){b:Bool}{ls:List LV}(k:AL A Tryz.prog ops l Q (s.new d t (.ptr t 0) (.box T ls)))(hx:Ev A s x (b,ls):=by first | exact Ql rfl | exact Evl.ev (Qk rfl) | exact Evl.ev Q3 | exact Evl.ev (Evl.str rfl))(hk:Zb s.tab ls=true:=by rfl)(hn:Nat.blt d A.n=true:=by rfl)(hfr:Fresh s t:=by exact Fresh.of rfl)(hk0:A.k0≤t:=by exact nlr rfl):AL A Tryz.prog ops (⟨some d, .box T x,ty,pos,af,none⟩ :: l) Q s:=lc (QlK t hx hk hn hfr hk0) k
theorem xal {T ty:TypeId}{d:Nat}{pos:String}{af:Array Edge}{g:Option (Nat×Bool)}(k:Nat)(t:Ty){z:Value}(hz:zer Tryz.prog T=some z)(hzt:z.cells.toList=t.zeros:=by rfl)(hn:Nat.blt d A.n=true:=by rfl)(hfr:Fresh s k:=by exact Fresh.of rfl)(hk0:A.k0≤k:=by exact nlr rfl):Does A Tryz.prog ⟨some d, .alloc T,ty,pos,af,g⟩ s (s.new d k (.ptr k 0) (.box T t.zlv)):=Wg k t hz hzt hn hfr hk0
theorem e1_ {i:Nat}{b:Bool}{ls:List LV}(h:lk s.tm i=some (.cm b ls):=by rfl):EvL A s [.tmp i] [(b,ls)]:=⟨_,_,rfl,Ql h,rfl⟩
theorem e2_ {i j:Nat}{b c:Bool}{ls ms:List LV}(h:lk s.tm i=some (.cm b ls):=by rfl)(k:lk s.tm j=some (.cm c ms):=by rfl):EvL A s [.tmp i, .tmp j] [(b,ls),(c,ms)]:=⟨_,_,rfl,Ql h,_,_,rfl,Ql k,rfl⟩
theorem w_ {G G':Prop}(k:G')(h:G'→G:=by
    first
    | ((with_reducible apply lm); rfl; rfl)
    | ((with_reducible apply lgn); rfl; rfl; rfl)
    | ((with_reducible apply lc); exact D_)
    | ((with_reducible apply lgy); rfl; rfl; exact D_)
    | (with_reducible exact Qnt)
    | (with_reducible exact QqP)
    | (with_reducible exact Zv)
    | ((with_reducible apply Qlc); exact Qa rfl)
    | ((with_reducible apply QmQ); exact Qa rfl)
    | (with_reducible exact QkZ)
    | (with_reducible exact QlZ)
    | (with_reducible exact Qdi)):G:=h k
end
def rlm:Nat→List Nat→List Nat
  | _,[]=>[]
  | b,r :: rs=>Nat.sub (Nat.sub b 1) r :: rlm (Nat.mul 2 b) rs
def QhC (l:List Oper)(plan:List Item)(deps:List (List Nat)):Bool:=Nat.beq l.length plan.length&&(Qbh l.toArray deps plan.length&&QbO plan deps&&KU l.toArray plan.length)
def ActsH (A:Amb)(P:Program)(l0:List Oper)(plan:List Item)(deps:List (List Nat))(s0:St):List Oper→List Item→Nat→Prop
  | o :: l,it :: p,i=>(∀s,At plan deps s0 i s→Acts A P l0.toArray o s (KI s it))∧ActsH A P l0 plan deps s0 l p (i+1)
  | [],_,_=>QhC l0 plan deps=true
  | _ :: _,[],_=>QhC l0 plan deps=true
section
variable {A:Amb}{P:Program}{s s' s0:St}{Q:Exit→St→Prop}{l0 l:List Oper}{o:Oper}{it:Item}{p plan:List Item}{deps:List (List Nat)}{i:Nat}
theorem ActsH.to:∀{l:List Oper} {p:List Item} {i:Nat},ActsH A P l0 plan deps s0 l p i→ActsL A P l0.toArray plan deps s0 l p i∧QhC l0 plan deps=true
  | _ :: _,_ :: _,_,h=>⟨⟨h.1,(ActsH.to h.2).1⟩,(ActsH.to h.2).2⟩
  | [],_,_,h=>⟨trivial,h⟩
  | _ :: _,[],_,h=>⟨trivial,h⟩
theorem QqE {q:Nat}(hs:At plan deps s0 i s)(h:(se plan deps s0 i q).isSome=true):(s.tab.ent q).isSome=true:=by
  obtain ⟨x,hx⟩:=b8.1 h
  rw[hs.n _ hx]; rfl
theorem DH_ (h:Does A Tryz.prog o s s':=by
    first
    | ((with_reducible apply QaJ); exact At.v ‹_› rfl; (first | exact At.w ‹_› rfl | exact Evl.ev Q3 | exact Evl.ev (Qk rfl)); rfl)
    | ((with_reducible apply QbP); exact At.v ‹_› rfl; (first | exact At.w ‹_› rfl | exact Evl.ev Q3 | exact Evl.ev (Qk rfl)); rfl)
    | ((with_reducible apply Ki); exact At.v ‹_› rfl; exact At.n ‹_› _ rfl; exact WZ rfl; rfl; rfl)
    | ((with_reducible apply Ul); exact At.v ‹_› rfl; exact At.n ‹_› _ rfl; exact WZ rfl; rfl; rfl)
    | ((with_reducible apply UB); exact At.k ‹_› rfl; rfl)
    | ((with_reducible apply Wv); exact At.k ‹_› rfl; rfl)
    | ((with_reducible apply Jt); exact At.k ‹_› rfl; rfl; rfl)
    | ((with_reducible apply QaY); (first | exact Qk rfl | exact Q3 | exact Evl.str rfl | exact Evl.val); rfl)
    | ((with_reducible apply Jn); (first | exact Qk rfl | exact Q3 | exact Evl.str rfl | exact Evl.val); rfl)
    | ((with_reducible apply QbB); exact At.v ‹_› rfl; exact WZ rfl; rfl; rfl)
    | ((with_reducible apply Hk); exact At.v ‹_› rfl; exact WZ rfl; rfl; rfl)
    | ((with_reducible apply Hq); exact At.v ‹_› rfl; exact Qjt rfl rfl; rfl)
    | ((with_reducible apply Qez); exact At.v ‹_› rfl; rfl; exact QdM rfl)
    | ((with_reducible apply Qdn); exact At.v ‹_› rfl; exact At.n ‹_› _ rfl; rfl; exact QdM rfl)
    | ((with_reducible apply Qfu); (first | exact At.v ‹_› rfl | exact Qk rfl); (first | exact At.v ‹_› rfl | exact Qk rfl); rfl)
    | ((with_reducible apply V6); (first | exact At.v ‹_› rfl | exact Qk rfl); (first | exact At.v ‹_› rfl | exact Qk rfl); rfl)
    | ((with_reducible apply Qex); (first | exact At.v ‹_› rfl | exact Qk rfl); (first | exact At.v ‹_› rfl | exact Qk rfl); rfl)
    | ((with_reducible apply QfE); (first | exact At.v ‹_› rfl | exact Qk rfl); (first | exact At.v ‹_› rfl | exact Qk rfl); rfl)
    | ((with_reducible apply Qfg); (first | exact At.v ‹_› rfl | exact Qk rfl); (first | exact At.v ‹_› rfl | exact Qk rfl); rfl)
    | ((with_reducible apply QfN); (first | exact At.v ‹_› rfl | exact Qk rfl); (first | exact At.v ‹_› rfl | exact Qk rfl); rfl)
    | ((with_reducible apply Wc); (first | exact At.v ‹_› rfl | exact Qk rfl); (first | exact At.v ‹_› rfl | exact Qk rfl); rfl; omega)
    | ((with_reducible apply Wq); (first | exact At.v ‹_› rfl | exact Qk rfl); (first | exact At.v ‹_› rfl | exact Qk rfl); rfl; omega)
    | ((with_reducible apply QfC); exact At.v ‹_› rfl; rfl)
    | ((with_reducible apply Uo); (first | exact At.v ‹_› rfl | exact Evl.str rfl); (first | exact At.v ‹_› rfl | exact Evl.str rfl); rfl)
    | ((with_reducible apply Qcv); (first | exact At.v ‹_› rfl | exact Evl.str rfl); (first | exact At.v ‹_› rfl | exact Evl.str rfl); rfl)
    | ((with_reducible apply Zw); exact At.v ‹_› rfl; exact At.v ‹_› rfl; rfl)
    | ((with_reducible apply Zh); exact At.v ‹_› rfl; exact At.v ‹_› rfl; rfl)
    | ((with_reducible apply Ug); exact At.v ‹_› rfl; exact Qjt rfl rfl; exact QqE ‹_› rfl; rfl)
    | ((with_reducible apply JQ); exact At.v ‹_› rfl; exact QqE ‹_› rfl; rfl)
    | ((with_reducible apply Hh); (first | exact At.v ‹_› rfl | exact Evl.str rfl); (first | exact At.v ‹_› rfl | exact Qk rfl); rfl; exact QrI rfl; omega; assumption)
    | ((with_reducible apply WH); exact At.v ‹_› rfl; (first | exact At.v ‹_› rfl | exact Qk rfl); exact QdM rfl; exact WZ rfl; rfl; omega; assumption)
    | ((with_reducible apply ZE); exact At.v ‹_› rfl; exact At.n ‹_› _ rfl; (first | exact At.w ‹_› rfl | exact Evl.ev (Qk rfl) | exact Evl.ev Q3); rfl; exact WZ rfl; rfl)):Does A Tryz.prog o s s':=h
theorem zz (h:∀s,At plan deps s0 i s→Acts A P l0.toArray o s (KI s it))(k:ActsH A P l0 plan deps s0 l p (i+1)):ActsH A P l0 plan deps s0 (o :: l) (it :: p) i:=⟨h,k⟩
theorem z_ (k:ActsH A Tryz.prog l0 plan deps s0 l p (i+1))(h:∀s,At plan deps s0 i s→Acts A Tryz.prog l0.toArray o s (KI s it):=by
    first
    | ((with_reducible apply dxm); rfl; rfl)
    | ((with_reducible apply dxf); exact Qjt rfl rfl; rfl; rfl; rfl)
    | ((with_reducible apply dxl); exact WZ rfl; rfl; rfl; rfl; rfl; rfl)
    | ((with_reducible apply dxt); rfl; rfl)
    | ((with_reducible apply dxn); rfl; rfl; rfl)
    | ((with_reducible apply dxa); exact WZ rfl; rfl; rfl; rfl; rfl)
    | ((with_reducible apply dxo); rfl; rfl; rfl)
    | (intro _ _; (apply ac); exact DH_; rfl)
    | (intro _ _; (apply day); rfl; exact At.k ‹_› rfl; exact DH_; rfl)
    | (intro _ _; (apply Qn0); rfl; rfl; exact At.k ‹_› rfl; rfl; rfl)):ActsH A Tryz.prog l0 plan deps s0 (o :: l) (it :: p) i:=⟨h,k⟩
theorem zN (h:QhC l0 plan deps=true:=by kernel_rfl):ActsH A Tryz.prog l0 plan deps s0 [] [] i:=h
theorem dW {id:Nat}{y:Code}(plan:List Item)(ms:List Nat)(H:ActsH A Tryz.prog l plan (dms (rlm 1 ms)) s0 l plan 0)(k:AC A Tryz.prog y Q (stD plan s0 fun _=>true)):AC A Tryz.prog (.seq (.region id l.toArray true) y) Q s0:=by
  obtain ⟨h1,h2⟩:=H.to
  rw[QhC,aM] at h2
  exact dw plan _ mixed (aZ h2.1) h2.2 h1 k
theorem dV {id:Nat}(plan:List Item)(ms:List Nat)(H:ActsH A Tryz.prog l plan (dms (rlm 1 ms)) s0 l plan 0)(k:Q .normal (stD plan s0 fun _=>true)):AC A Tryz.prog (.region id l.toArray true) Q s0:=by
  obtain ⟨h1,h2⟩:=H.to
  rw[QhC,aM] at h2
  exact dv plan _ mixed (aZ h2.1) h2.2 h1 k
theorem dZ {id:Nat}{y:Code}{Q':Exit→St→Prop}(plan:List Item)(ms:List Nat)(H:ActsH A Tryz.prog l plan (dms (rlm 1 ms)) s0 l plan 0)(k:AC A Tryz.prog y Q' (stD plan s0 fun _=>true)):AC A Tryz.prog (.region id l.toArray true) (UX (AC A Tryz.prog y Q') Q) s0:=by
  obtain ⟨h1,h2⟩:=H.to
  rw[QhC,aM] at h2
  exact dz plan _ mixed (aZ h2.1) h2.2 h1 k
end
section
variable {A:Amb}{s:St}{f:FuncId}{xs:List Operand}{tys:Array TypeId}{args:List (Bool×List LV)}{d k:Nat}{ty T:TypeId}{pos:String}{af:Array Edge}{g:Option (Nat×Bool)}{pv:PV}{U U':Tab}{x y:Operand}
theorem evN:EvL A s [] []:=rfl
theorem evC {c:Bool×List LV}{cs:List (Bool×List LV)}(h:Ev A s x c)(k:EvL A s xs cs):EvL A s (x :: xs) (c :: cs):=⟨_,_,rfl,h,k⟩
theorem ebN:EvLB A s [] []:=rfl
theorem ebC {c:Bool×List LV}{cs:List (Bool×List LV)}(h:EvB A s x c)(k:EvLB A s xs cs):EvLB A s (x :: xs) (c :: cs):=⟨_,_,rfl,h,k⟩
theorem abN {e:Ty}:AbsL U e [] [] []:=⟨rfl,rfl⟩
theorem abC {e:Ty}{c:Bool×List LV}{cs:List (Bool×List LV)}{z:e.Den}{zs:List e.Den}{u1 u2:List Nat}(h:Abs U e c.2 z u1)(k:AbsL U e cs zs u2):AbsL U e (c :: cs) (z :: zs) (u1++u2):=⟨_,_,_,_,rfl,h,k,rfl⟩
theorem dK (hc:FC Tryz.prog f args [] 0 (QY pv))(hE:Qg Tryz.prog f)(ha:EvL A s xs args:=by repeat' first | exact evN | exact Ql rfl | exact At.w ‹_› rfl | exact Evl.ev (Qk rfl) | exact Evl.ev Q3 | exact Evl.ev (Evl.str rfl) | apply evC)(ht:pv.tags=[]:=by rfl)(hn:Nat.blt d A.n=true:=by rfl):Does A Tryz.prog ⟨some d, .call ⟨.value (.func f),xs.toArray,tys⟩,ty,pos,af,g⟩ s (s.put d pv):=Vf hc hE ha ht hn
theorem dB_ (hc:FC Tryz.prog f args [] 0 (QY pv))(hE:Qg Tryz.prog f)(ha:EvLB A s xs args:=by repeat' first | exact ebN | exact Ev.b (Ql rfl) | exact Ev.b (At.w ‹_› rfl) | exact Ev.b (Evl.ev (Qk rfl)) | exact Ev.b (Evl.ev Q3) | exact Ev.b (Evl.ev (Evl.str rfl)) | exact QdR (Qa rfl) rfl | exact QdR (At.v ‹_› rfl) (At.n ‹_› _ rfl) | apply ebC)(ht:pv.tags=[]:=by rfl)(hf:pv.fl=true:=by rfl)(hn:Nat.blt d A.n=true:=by rfl):Does A Tryz.prog ⟨some d, .call ⟨.value (.func f),xs.toArray,tys⟩,ty,pos,af,g⟩ s (s.put d pv):=Wp hc hE ha ht hf hn
theorem dO (t:Nat){E:TypeId}{e:Ty}{zs:List e.Den}(hc:FC Tryz.prog f args [] 0 (Yo E e zs))(hE:Qg Tryz.prog f)(ha:EvL A s xs args:=by repeat' first | exact evN | exact Ql rfl | exact At.w ‹_› rfl | exact Evl.ev (Qk rfl) | exact Evl.ev Q3 | exact Evl.ev (Evl.str rfl) | apply evC)(hn:Nat.blt d A.n=true:=by rfl)(hfr:Fresh s t:=by first | exact Fresh.of rfl | exact At.fr ‹_› _ rfl)(hk0:A.k0≤t:=by exact nlr rfl):Does A Tryz.prog ⟨some d, .call ⟨.value (.func f),xs.toArray,tys⟩,ty,pos,af,g⟩ s (s.mk_ d t [] E e zs):=Qgw t hc hE ha hn hfr hk0
theorem dOB (t:Nat){E:TypeId}{e:Ty}{zs:List e.Den}(hc:FC Tryz.prog f args [] 0 (Yo E e zs))(hE:Qg Tryz.prog f)(ha:EvLB A s xs args:=by repeat' first | exact ebN | exact Ev.b (Ql rfl) | exact Ev.b (At.w ‹_› rfl) | exact Ev.b (Evl.ev (Qk rfl)) | exact Ev.b (Evl.ev Q3) | exact Ev.b (Evl.ev (Evl.str rfl)) | exact QdR (Qa rfl) rfl | exact QdR (At.v ‹_› rfl) (At.n ‹_› _ rfl) | apply ebC)(hn:Nat.blt d A.n=true:=by rfl)(hfr:Fresh s t:=by first | exact Fresh.of rfl | exact At.fr ‹_› _ rfl)(hk0:A.k0≤t:=by exact nlr rfl):Does A Tryz.prog ⟨some d, .call ⟨.value (.func f),xs.toArray,tys⟩,ty,pos,af,g⟩ s (s.mk_ d t [] E e zs):=Hi t hc hE ha hn hfr hk0
theorem dG (n:Nat)(hc:FC Tryz.prog f args [] 0 (Is pv U))(hE:Qg Tryz.prog f)(ha:EvL A s xs args:=by repeat' first | exact evN | exact Ql rfl | exact At.w ‹_› rfl | exact Evl.ev (Qk rfl) | exact Evl.ev Q3 | exact Evl.ev (Evl.str rfl) | apply evC)(hcl:ZV pv U=true:=by rfl)(hn:Nat.blt d A.n=true:=by rfl)(hfr:FrL s n (Zj U):=by repeat' first | exact trivial | exact Fresh.of rfl | exact At.fr ‹_› _ rfl | apply And.intro)(hk0:A.k0≤n:=by exact nlr rfl):Does A Tryz.prog ⟨some d, .call ⟨.value (.func f),xs.toArray,tys⟩,ty,pos,af,g⟩ s (s.back d n pv U):=QgQ n hc hE ha hcl hn hfr hk0
theorem dP (n:Nat)(ρ:List (Nat×Nat))(hc:FC Tryz.prog f args U k (Is pv U'))(hE:Qg Tryz.prog f)(ha:EvL A s xs (args.map fun c=>(c.1,c.2.map (LV.ren (rn ρ)))):=by repeat' first | exact evN | exact Ql rfl | exact At.w ‹_› rfl | exact Evl.ev (Qk rfl) | exact Evl.ev Q3 | exact Evl.ev (Evl.str rfl) | apply evC)(hT:HasE s ρ U:=by repeat' first | exact rfl | exact trivial | exact At.n ‹_› _ rfl | apply And.intro)(hB:(XL (U.map fun p=>rn ρ p.1)&&ZV pv U'&&XL (U'.map fun p=>sg ρ k n p.1)&&QfK U U' k&&Nat.blt d A.n)=true:=by rfl)(hfr:FrK s n k (Zj U'):=by repeat' first | exact trivial | exact Fresh.of rfl | exact At.fr ‹_› _ rfl | apply And.intro)(hk0:A.k0≤n:=by exact nlr rfl):Does A Tryz.prog ⟨some d, .call ⟨.value (.func f),xs.toArray,tys⟩,ty,pos,af,g⟩ s (s.backP d (sg ρ k n) (U.map fun p=>rn ρ p.1) pv U'):=Qhm n ρ hc hE ha hT hB hfr hk0
theorem dA {q q2:Nat}{E:TypeId}{e:Ty}{us ys:List e.Den}(t:Nat)(hE:XP Tryz.prog E e.wd=true)(hx:Evl A s x (.ref q):=by first | exact Qa rfl | exact At.v ‹_› rfl)(he:s.tab.ent q=some (.arr E e us):=by first | exact rfl | exact At.n ‹_› _ rfl)(hy:Evl A s y (.ref q2):=by first | exact Qa rfl | exact At.v ‹_› rfl)(he2:s.tab.ent q2=some (.arr E e ys):=by first | exact rfl | exact At.n ‹_› _ rfl)(hne:Nat.beq q q2=false:=by rfl)(hT:Tryz.prog.underlying T=some (.slice E):=by exact QdM rfl)(hb:us.length+ys.length≤1073741824:=by first | omega | (simp only[ao,aN,aw,ax,aK]; omega) | (simp only[ao,bu,aw,ax,aK]; omega))(hn:Nat.blt d A.n=true:=by rfl)(hfr:Fresh s t:=by first | exact Fresh.of rfl | exact At.fr ‹_› _ rfl)(hk0:A.k0≤t:=by exact nlr rfl):Does A Tryz.prog ⟨some d, .call {callee:= .builtin .append,args:= #[x,y],argTypes:= #[T,T]},ty,pos,af,g⟩ s (s.mk_ d t [q,q2] E e (us++ys)):=QfA t hx he hy he2 hne hT hE hb hn hfr hk0
theorem dBs (t:Nat){E:TypeId}{e:Ty}{n:Nat}{parts:Array (Nat×Operand)}{css:List (Bool×List LV)}{us:List e.Den}{used:List Nat}{bb:Bool}{z:Value}(hz:zer Tryz.prog E=some z)(hT:Tryz.prog.underlying T=some (.slice E):=by exact QdM rfl)(hE:tsh Tryz.prog E=some (bb,e.wd):=by exact WZ rfl)(hpn:parts.toList.map (·.1)=List.range n:=by rfl)(hv:EvL A s (parts.toList.map (·.2)) css:=by repeat' first | exact evN | exact Ql rfl | exact At.w ‹_› rfl | exact Evl.ev (Qk rfl) | exact Evl.ev Q3 | exact Evl.ev (Evl.str rfl) | apply evC)(hok:∀c∈css,Zb s.tab c.2=true:=by exact aA.1 rfl)(hab:AbsL s.tab e css us used:=by repeat' first | exact abN | exact ⟨rfl,rfl⟩ | apply abC)(hun:used.Nodup:=by decide)(hsz:Nat.ble (n*e.wd) 16777216=true:=by rfl)(hn:Nat.blt d A.n=true:=by rfl)(hfr:Fresh s t:=by first | exact Fresh.of rfl | exact At.fr ‹_› _ rfl)(hk0:A.k0≤t:=by exact nlr rfl):Does A Tryz.prog ⟨some d, .buildSlice T n parts,ty,pos,af,g⟩ s (s.mk_ d t used E e us):=XH t hT hE hz hpn hv hok hab hun hsz hn hfr hk0
end
section
variable {A:Amb}{s s1:St}{Q:Exit→St→Prop}{ops:Array Oper}{l:List Oper}{c x y:Code}{fn:Func}{k:Nat}{O O':PV→Tab→Prop}{pv pv0:PV}{T:Tab}
theorem alL (t:Nat){E:TypeId}{e:Ty}{u:List e.Den}(k:u.length≤9223372036854775807→AL A Tryz.prog ops l Q s)(h:Evl A s (.tmp t) (.dat (.sl E e) u):=by exact Qa rfl):AL A Tryz.prog ops l Q s:=AL.fact (QmV h) k
theorem alS (t:Nat){u:ByteArray}(k:u.size≤9223372036854775807→AL A Tryz.prog ops l Q s)(h:Evl A s (.tmp t) (dS u):=by exact Qa rfl):AL A Tryz.prog ops l Q s:=AL.fact (Qkk h) k
theorem alI (t:Nat){n:Int}(k: -9223372036854775808≤n∧n≤9223372036854775807→AL A Tryz.prog ops l Q s)(h:Evl A s (.tmp t) (dI n):=by exact Qa rfl):AL A Tryz.prog ops l Q s:=AL.fact (Qe7 h) k
theorem acI (t:Nat){n:Int}(k: -9223372036854775808≤n∧n≤9223372036854775807→AC A Tryz.prog c Q s)(h:Evl A s (.tmp t) (dI n):=by exact Qa rfl):AC A Tryz.prog c Q s:=AC.fact (Qe7 h) k
theorem acG (t i:Nat){ls:List LV}{n:Int}(k: -9223372036854775808≤n∧n≤9223372036854775807→AC A Tryz.prog c Q s)(h:Ev A s (.tmp t) (true,ls):=by exact Ql rfl)(hi:ls[i]? =some (dI n):=by rfl):AC A Tryz.prog c Q s:=AC.fact (QnF h hi) k
theorem cd_ {z:Operand}{p:Prop}{hd:Decidable p}(hf: @decide p hd=false→¬p→AC A Tryz.prog y Q s)(ht: @decide p hd=true→p→AC A Tryz.prog x Q s)(hc:Evl A s z (dB (@decide p hd)):=by exact Qa rfl):AC A Tryz.prog (.cond z x y) Q s:=K0 hc (fun h=>ht h (ab h)) fun h=>hf h (ae h)
theorem cn_ {z:Operand}{p:Prop}{hd:Decidable p}(hf:(!@decide p hd)=false→p→AC A Tryz.prog y Q s)(ht:(!@decide p hd)=true→¬p→AC A Tryz.prog x Q s)(hc:Evl A s z (dB (!@decide p hd)):=by exact Qa rfl):AC A Tryz.prog (.cond z x y) Q s:=K0 hc (fun h=>ht h (Za h)) fun h=>hf h (QV h)
theorem cb_ {z:Operand}{b:Bool}(hf:b=false→AC A Tryz.prog y Q s)(ht:b=true→AC A Tryz.prog x Q s)(hc:Evl A s z (dB b):=by exact Qa rfl):AC A Tryz.prog (.cond z x y) Q s:=K0 hc ht hf
theorem rs_ {r:ResultVar}{d:Bool×List LV}(h:Rs A Tryz.prog s r d:=by first | exact Yc rfl | exact QD rfl rfl (WZ rfl) rfl | exact QmW rfl rfl (WZ rfl)):Rs A Tryz.prog s r d:=h
theorem re_ (h:Res A Tryz.prog fn s pv:=by first | exact Res.one rfl rs_ | exact Xt rfl rs_ rs_ | exact Ut rfl rs_ rs_ rs_ | exact QfJ rfl rs_ rs_ rs_ rs_ | exact Qmd rfl):Res A Tryz.prog fn s pv:=h
theorem fe_ (hO:O=QY pv)(h:Res A Tryz.prog fn s pv:=by exact re_)(ht:pv.tags=[]:=by rfl):fin A Tryz.prog fn (U9 O k) .ret s:=by subst hO; exact W3 h rfl ht
theorem fqI {u v:Int}(hO:O=QY (lf (dI v)))(e:u=v)(h:Res A Tryz.prog fn s (lf (dI u)):=by exact re_):fin A Tryz.prog fn (U9 O k) .ret s:=by subst hO; subst e; exact W3 h rfl rfl
theorem fqB {u v:Bool}(hO:O=QY (lf (dB v)))(e:u=v)(h:Res A Tryz.prog fn s (lf (dB u)):=by exact re_):fin A Tryz.prog fn (U9 O k) .ret s:=by subst hO; subst e; exact W3 h rfl rfl
theorem fqS {u v:ByteArray}(hO:O=QY (lf (dS v)))(e:u=v)(h:Res A Tryz.prog fn s (lf (dS u)):=by exact re_):fin A Tryz.prog fn (U9 O k) .ret s:=by subst hO; subst e; exact W3 h rfl rfl
theorem fq_ {t:Ty}{u v:t.Den}(hO:O=QY (lf (.dat t v)))(e:u=v)(h:Res A Tryz.prog fn s (lf (.dat t u)):=by exact re_):fin A Tryz.prog fn (U9 O k) .ret s:=by subst hO; subst e; exact W3 h rfl rfl
theorem fr_ (hO:O=QY pv)(h:Res A Tryz.prog fn s pv0:=by exact re_)(e:pv0=pv)(ht:pv.tags=[]:=by rfl):fin A Tryz.prog fn (U9 O k) .ret s:=by subst hO; exact W3 h e ht
theorem fo_ {q:Nat}{E:TypeId}{e:Ty}{u v:List e.Den}(hO:O=Yo E e v)(hx:u=v)(h:Res A Tryz.prog fn s (lf (.ref q)):=by exact re_)(he:s.tab.ent q=some (.arr E e u):=by rfl):fin A Tryz.prog fn (U9 O 0) .ret s:=by subst hO; exact Qm9 h he hx
theorem fi_ (ρ:List (Nat×Nat))(hO:O=Is pv T)(h2:HasE ⟨[],s.tab⟩ ρ T)(h1:Res A Tryz.prog fn s pv0:=by exact re_)(h0:pv0=pv.ren (rn ρ):=by rfl)(h3:XL (T.map fun x=>rn ρ x.1)=true:=by rfl)(h4:idB ρ k=true:=by rfl):fin A Tryz.prog fn (U9 O k) .ret s:=by subst hO; exact Qpf pv T ρ h1 h0 h2 h3 h4
theorem lp0 (n:Nat)(F:Nat→St)(k0:Wk A s (F 0))(round:∀k,k≤n→AC A Tryz.prog c (UX (fun s1=>k+1≤n∧Wk A s1 (F (k+1))) Q) (F k)):AC A Tryz.prog (.loop c) Q s:=
  QK (fun m s=>∃k,k≤n∧m=n - k∧s=F k) ⟨0,aU _,rfl,rfl⟩ k0 (by
    rintro m s ⟨k,hk,rfl,rfl⟩
    refine (round k hk).mono fun e s h=> ?_
    cases e <;> first | exact h | exact ⟨n - (k+1),_,by have:=h.1; omega,h.2,k+1,h.1,rfl,rfl⟩)
theorem lpK (n:Nat)(J:Nat→Prop)(F:Nat→St)(j0:J 0)(k0:Wk A s (F 0))(round:∀k,k≤n→J k→AC A Tryz.prog c (UX (fun s1=>k+1≤n∧J (k+1)∧Wk A s1 (F (k+1))) Q) (F k)):AC A Tryz.prog (.loop c) Q s:=
  QK (fun m s=>∃k,k≤n∧m=n - k∧J k∧s=F k) ⟨0,aU _,rfl,j0,rfl⟩ k0 (by
    rintro m s ⟨k,hk,rfl,hj,rfl⟩
    refine (round k hk hj).mono fun e s h=> ?_
    cases e <;> first | exact h | exact ⟨n - (k+1),_,by have:=h.1; omega,h.2.2,k+1,h.1,rfl,h.2.1,rfl⟩)
theorem l0_ {n:Nat}{a:St}(w:Wk A s1 a)(h:k+1≤n:=by omega):k+1≤n∧Wk A s1 a:=⟨h,w⟩
theorem lK_ {n:Nat}{J:Prop}{a:St}(j:J)(w:Wk A s1 a)(h:k+1≤n:=by omega):k+1≤n∧J∧Wk A s1 a:=⟨h,j,w⟩
end
@[reducible] def bx (q E:Nat) (cs:List LV):Nat×Option Ent:=(q,some (.box E cs))
@[reducible] def ar (q E:Nat) (e:Ty) (xs:List e.Den):Nat×Option Ent:=(q,some (.arr E e xs))
theorem w2 {G G':Prop}(k:G')(h:G'→G:=by intro k_; iterate 2 refine w_ ?_; exact k_):G:=h k
theorem z2 {G G':Prop}(k:G')(h:G'→G:=by intro k_; iterate 2 refine z_ ?_; exact k_):G:=h k
theorem y2 {G:Prop}(h:G:=by iterate 2 refine z_ ?_; exact zN):G:=h
theorem w3 {G G':Prop}(k:G')(h:G'→G:=by intro k_; iterate 3 refine w_ ?_; exact k_):G:=h k
theorem z3 {G G':Prop}(k:G')(h:G'→G:=by intro k_; iterate 3 refine z_ ?_; exact k_):G:=h k
theorem y3 {G:Prop}(h:G:=by iterate 3 refine z_ ?_; exact zN):G:=h
theorem z4 {G G':Prop}(k:G')(h:G'→G:=by intro k_; iterate 4 refine z_ ?_; exact k_):G:=h k
theorem z5 {G G':Prop}(k:G')(h:G'→G:=by intro k_; iterate 5 refine z_ ?_; exact k_):G:=h k
theorem z9 {G G':Prop}(k:G')(h:G'→G:=by intro k_; iterate 9 refine z_ ?_; exact k_):G:=h k
theorem y1 {G:Prop}(h:G:=by refine z_ ?_; exact zN):G:=h
@[reducible] def i2 (d:Nat) (a0 a1:PV) (l:List Item):List Item:=io (d) a0 :: io (Nat.succ (d)) a1 :: l
@[reducible] def i3 (d:Nat) (a0 a1 a2:PV) (l:List Item):List Item:=io (d) a0 :: io (Nat.succ (d)) a1 :: io (Nat.succ (Nat.succ (d))) a2 :: l
@[reducible] def i4 (d:Nat) (a0 a1 a2 a3:PV) (l:List Item):List Item:=io (d) a0 :: io (Nat.succ (d)) a1 :: io (Nat.succ (Nat.succ (d))) a2 :: io (Nat.succ (Nat.succ (Nat.succ (d)))) a3 :: l
@[reducible] def i5 (d:Nat) (a0 a1 a2 a3 a4:PV) (l:List Item):List Item:=io (d) a0 :: io (Nat.succ (d)) a1 :: io (Nat.succ (Nat.succ (d))) a2 :: io (Nat.succ (Nat.succ (Nat.succ (d)))) a3 :: io (Nat.succ (Nat.succ (Nat.succ (Nat.succ (d))))) a4 :: l
@[reducible] def i6 (d:Nat) (a0 a1 a2 a3 a4 a5:PV) (l:List Item):List Item:=io (d) a0 :: io (Nat.succ (d)) a1 :: io (Nat.succ (Nat.succ (d))) a2 :: io (Nat.succ (Nat.succ (Nat.succ (d)))) a3 :: io (Nat.succ (Nat.succ (Nat.succ (Nat.succ (d))))) a4 :: io (Nat.succ (Nat.succ (Nat.succ (Nat.succ (Nat.succ (d)))))) a5 :: l
@[reducible] def i7 (d:Nat) (a0 a1 a2 a3 a4 a5 a6:PV) (l:List Item):List Item:=io (d) a0 :: io (Nat.succ (d)) a1 :: io (Nat.succ (Nat.succ (d))) a2 :: io (Nat.succ (Nat.succ (Nat.succ (d)))) a3 :: io (Nat.succ (Nat.succ (Nat.succ (Nat.succ (d))))) a4 :: io (Nat.succ (Nat.succ (Nat.succ (Nat.succ (Nat.succ (d)))))) a5 :: io (Nat.succ (Nat.succ (Nat.succ (Nat.succ (Nat.succ (Nat.succ (d))))))) a6 :: l
@[reducible] def i8 (d:Nat) (a0 a1 a2 a3 a4 a5 a6 a7:PV) (l:List Item):List Item:=io (d) a0 :: io (Nat.succ (d)) a1 :: io (Nat.succ (Nat.succ (d))) a2 :: io (Nat.succ (Nat.succ (Nat.succ (d)))) a3 :: io (Nat.succ (Nat.succ (Nat.succ (Nat.succ (d))))) a4 :: io (Nat.succ (Nat.succ (Nat.succ (Nat.succ (Nat.succ (d)))))) a5 :: io (Nat.succ (Nat.succ (Nat.succ (Nat.succ (Nat.succ (Nat.succ (d))))))) a6 :: io (Nat.succ (Nat.succ (Nat.succ (Nat.succ (Nat.succ (Nat.succ (Nat.succ (d)))))))) a7 :: l
@[reducible] def i9 (d:Nat) (a0 a1 a2 a3 a4 a5 a6 a7 a8:PV) (l:List Item):List Item:=io (d) a0 :: io (Nat.succ (d)) a1 :: io (Nat.succ (Nat.succ (d))) a2 :: io (Nat.succ (Nat.succ (Nat.succ (d)))) a3 :: io (Nat.succ (Nat.succ (Nat.succ (Nat.succ (d))))) a4 :: io (Nat.succ (Nat.succ (Nat.succ (Nat.succ (Nat.succ (d)))))) a5 :: io (Nat.succ (Nat.succ (Nat.succ (Nat.succ (Nat.succ (Nat.succ (d))))))) a6 :: io (Nat.succ (Nat.succ (Nat.succ (Nat.succ (Nat.succ (Nat.succ (Nat.succ (d)))))))) a7 :: io (Nat.succ (Nat.succ (Nat.succ (Nat.succ (Nat.succ (Nat.succ (Nat.succ (Nat.succ (d))))))))) a8 :: l
end Go.Proofs.YtgpdhgadmjfokaaGreat
namespace Go.Proofs.YtgpdhgadmjfokaaGreat
open Go.RowKit
section
variable {A:Amb}{P:Program}{s:St}{x y:Operand}{d:Nat}{T T' ty:TypeId}{pos:String}{af:Array Edge}{g:Option (Nat×Bool)}
theorem Qe1 (op:BinOp)(hop:op= .and∨op= .or)(m n:Nat)(hm:m < 9223372036854775808)(hn:n < 9223372036854775808):bits op .i64 (m:Int) (n:Int)=((if op= .and then m &&& n else m ||| n:Nat):Int):=by
  have h1:(BitVec.ofInt 64 (m:Int)).toNat=m:=by rw[BitVec.ofInt_natCast,BitVec.toNat_ofNat]; exact dq (by omega)
  have h2:(BitVec.ofInt 64 (n:Int)).toNat=n:=by rw[BitVec.ofInt_natCast,BitVec.toNat_ofNat]; exact dq (by omega)
  rcases hop with rfl | rfl
  · have hx : m &&& n < 2 ^ 63 := Nat.and_lt_two_pow _ (by omega)
    show IntKind.i64.wrap ((BitVec.ofInt 64 (m:Int) &&& BitVec.ofInt 64 (n:Int)).toNat:Int)=_
    rw[BitVec.toNat_and,h1,h2,IntWalk.i64_in _ (by omega)]
    rfl
  · have hx : m ||| n < 2 ^ 63 := Nat.or_lt_two_pow (by omega) (by omega)
    show IntKind.i64.wrap ((BitVec.ofInt 64 (m:Int) ||| BitVec.ofInt 64 (n:Int)).toNat:Int)=_
    rw[BitVec.toNat_or,h1,h2,IntWalk.i64_in _ (by omega)]
    rfl
theorem Jo {m n:Int}(hx:Evl A s x (dI m))(hy:Evl A s y (dI n))(hn:Nat.blt d A.n=true)(h0:0≤m)(h00:0≤n):Does A P ⟨some d, .binOp .and T x y T',ty,pos,af,g⟩ s (s.put d (lf (dI ((m.toNat &&& n.toNat:Nat):Int)))):=
  Qf rfl hn fun gh a w r=>by
    have h1:=hx.i r
    have h2:=hy.i r
    have k1:=(LVR.int (hx gh a w r)).2
    have k2:=(LVR.int (hy gh a w r)).2
    have hb:=Qe1 .and (.inl rfl) m.toNat n.toNat (by omega) (by omega)
    rw[cV h0,cV h00] at hb
    have hb:bits .and .i64 m n=((m.toNat &&& n.toNat:Nat):Int):=hb
    have h3:Op.intBits .and .i64 m n=pure (.int .i64 ((m.toNat &&& n.toNat:Nat):Int)):=by rw[← hb]; rfl
    have hx2:m.toNat &&& n.toNat≤m.toNat:=Nat.and_le_left
    refine ⟨.int .i64 ((m.toNat &&& n.toNat:Nat):Int), ?_,_,rfl,ZW (by omega)⟩
    simp only[execOp,h1,h2,eqGuard_at_int,binOp,h3]
    simp
theorem Qn7 {m n:Int}(hx:Evl A s x (dI m))(hy:Evl A s y (dI n))(hn:Nat.blt d A.n=true)(h0:0≤m)(h00:0≤n):Does A P ⟨some d, .binOp .or T x y T',ty,pos,af,g⟩ s (s.put d (lf (dI ((m.toNat ||| n.toNat:Nat):Int)))):=
  Qf rfl hn fun gh a w r=>by
    have h1:=hx.i r
    have h2:=hy.i r
    have k1:=(LVR.int (hx gh a w r)).2
    have k2:=(LVR.int (hy gh a w r)).2
    have hb:=Qe1 .or (.inr rfl) m.toNat n.toNat (by omega) (by omega)
    rw[cV h0,cV h00] at hb
    have hb:bits .or .i64 m n=((m.toNat ||| n.toNat:Nat):Int):=hb
    have h3:Op.intBits .or .i64 m n=pure (.int .i64 ((m.toNat ||| n.toNat:Nat):Int)):=by rw[← hb]; rfl
    have hx2:m.toNat ||| n.toNat < 2 ^ 63:=Nat.or_lt_two_pow (by omega) (by omega)
    refine ⟨.int .i64 ((m.toNat ||| n.toNat:Nat):Int), ?_,_,rfl,ZW (by omega)⟩
    simp only[execOp,h1,h2,eqGuard_at_int,binOp,h3]
    simp
theorem Qfz {m n:Int}(hx:Evl A s x (dI m))(hy:Evl A s y (dI n))(hn:Nat.blt d A.n=true)(h0:0≤n∧n≤62)(hb: -9223372036854775808≤m*2 ^ n.toNat∧m*2 ^ n.toNat≤9223372036854775807):Does A P ⟨some d, .binOp .shl T x y T',ty,pos,af,g⟩ s (s.put d (lf (dI (m*2 ^ n.toNat)))):=
  Qf rfl hn fun gh a w r=>by
    have h1:=hx.i r
    have h2:=hy.i r
    have h3:Op.shift .shl .i64 m .i64 n=pure (.int .i64 (m*2 ^ n.toNat)):=by
      rw[shift_shl_any _ _ _ _ h0.1,show IntKind.i64.bits=64 from rfl,cF (by omega),IntWalk.i64_in _ (by omega)]
    refine ⟨.int .i64 (m*2 ^ n.toNat), ?_,_,rfl,ZW hb⟩
    simp only[execOp,h1,h2,eqGuard_at_int,binOp,h3]
    simp
theorem Jg {m n:Int}(hx:Evl A s x (dI m))(hy:Evl A s y (dI n))(hn:Nat.blt d A.n=true)(h0:0≤n∧n≤62)(hm:0≤m):Does A P ⟨some d, .binOp .shr T x y T',ty,pos,af,g⟩ s (s.put d (lf (dI (m / 2 ^ n.toNat)))):=
  Qf rfl hn fun gh a w r=>by
    have h1:=hx.i r
    have h2:=hy.i r
    have k1:=(LVR.int (hx gh a w r)).2
    have h3:Op.shift .shr .i64 m .i64 n=pure (.int .i64 (m / 2 ^ n.toNat)):=by
      rw[shift_shr_any _ _ _ _ h0.1,show IntKind.i64.bits=64 from rfl,cF (by omega)]
    have h4:0≤m / 2 ^ n.toNat:=bS hm (bU (by decide))
    have h5:m / 2 ^ n.toNat≤m:=Int.ediv_le_self _ hm
    refine ⟨.int .i64 (m / 2 ^ n.toNat), ?_,_,rfl,ZW (by omega)⟩
    simp only[execOp,h1,h2,eqGuard_at_int,binOp,h3]
    simp
end
end Go.Proofs.YtgpdhgadmjfokaaGreat
namespace Go.Proofs.YtgpdhgadmjfokaaGreat
open Go.RowKit
theorem QdX:EqT Tryz.prog 2 86 true (.pr .int .bool):=EqT.struct Tryz.underlying86 (by kernel_rfl) (EqFs.cons (by decide) rfl Zn (fun _=>rfl) (EqT.int Ji) (EqFs.one (by decide) rfl XO (fun _=>rfl) (EqT.bool WY)))
theorem Qea:(Tryz.prog.eqGuardType Tryz.prog.depth 86=false)∧2≤10000:=⟨by kernel_rfl,by decide⟩
end Go.Proofs.YtgpdhgadmjfokaaGreat
namespace Go.Proofs.YtgpdhgadmjfokaaGreat
open Go.RowKit
def Y7 (xs:List Int):List Int:=xs.mergeSort fun x y=>decide (x≤y)
theorem Wd (xs:List Int):(Y7 xs).Perm xs:=List.mergeSort_perm ..
theorem UI (xs:List Int):(Y7 xs).length=xs.length:=(Wd xs).length_eq
theorem UC {xs:List Int}{x:Int}:x∈Y7 xs↔x∈xs:=(Wd xs).mem_iff
theorem Vo (xs:List Int):(Y7 xs).Pairwise fun x y=>x≤y:=by
  have h:=List.pairwise_mergeSort (le:=fun x y:Int=>decide (x≤y)) (fun a b c h1 h2=>by simp only[aS] at*; omega) (fun a b=>by simp only[bY,aS]; omega) xs
  exact h.imp fun h=>by simpa using h
theorem JY {w:World}:∀{xs:List Int} {fp:List Nat} {cs:List Value},OwnL (Own .int w) fp cs xs→fp=[]∧cs=xs.map (Value.int .i64)∧∀x∈xs, -9223372036854775808≤x∧x≤9223372036854775807
  | [],fp,cs,h=>⟨h.1,h.2,fun x hx=>by cases hx⟩
  | x :: xs,fp,cs,h=>by
    obtain ⟨f1,f2,l,r,rfl,rfl,⟨rfl,rfl,h1⟩,h2⟩:=h
    obtain ⟨rfl,rfl,h3⟩:=JY h2
    exact ⟨rfl,rfl,fun y hy=>by rcases aJ.1 hy with rfl | hy; exact h1; exact h3 y hy⟩
theorem QdI {w:World}:∀{xs:List Int},(∀x∈xs, -9223372036854775808≤x∧x≤9223372036854775807)→OwnL (Own .int w) [] (xs.map (Value.int .i64)) xs
  | [],_=>⟨rfl,rfl⟩
  | x :: xs,h=>⟨[],[],[.int .i64 x],xs.map (Value.int .i64),rfl,rfl,⟨rfl,rfl,h x (aB ..)⟩,QdI fun y hy=>h y (aC _ hy)⟩
def Qmu (P:Program)(f:FuncId):Prop:=∀(blk cap:Nat) (zs:List Int) (w:World),Sort.Holds (Value.int .i64) w blk 0 zs.toArray→blk < w.heap.size→zs.length < 4611686018427387904→
  Calls P f #[.slice (some ⟨blk,0,none⟩) zs.length cap] w fun e w'=>e= .returned (.tuple #[])∧∃n os,w'=Sort.grow (Sort.putRow (Value.int .i64) (Sort.ahead w n) blk 0 (Y7 zs).toArray) os
def QeX (P:Program)(f:FuncId):Prop:=∀w:World,Calls P f #[.slice none 0 0] w fun e w'=>e= .returned (.tuple #[])∧Nw w w'
theorem Ql6 {P:Program}{f:FuncId}{E:TypeId}(hS:Qmu P f)(hN:QeX P f)(xs:List Int)(hl:xs.length≤1000000000):FC P f [(false,[.ref 0])] [(0,some (.arr E .int xs))] 1 (Is (.tup []) [(0,some (.arr E .int (Y7 xs)))]):=fun gh w vs cx ha=>by
  obtain ⟨v,vs',rfl,⟨l,hl_,h1⟩,rfl⟩:=ha
  simp only[aE,and_true] at hl_
  subst hl_
  have hv:v=gh.h 0:=h1 ⟨_,rfl⟩
  subst hv
  have hO:Own (.sl E .int) w (gh.f 0) [gh.h 0] xs:=cx.en 0 _ rfl
  have alq:∀(y:List Int) q,Tab.al [(0,some (Ent.arr E .int y))] q→q=0:=fun y q ⟨e,he⟩=>by
    rw[Qe] at he
    split at he
    · assumption
    · cases he
  rcases hO with ⟨hf,hc,hx⟩ | ⟨g,cap,cur,fps,hf,hc,hb,hn,hcap,hsz,hL⟩
  · simp only [aE, and_true] at hc
    subst hx
    rw[hc]
    refine Calls.mono (hN w) fun e w' he=> ?_
    obtain ⟨rfl,h2⟩:=he
    refine ⟨_,_,_,gh,rfl,⟨rfl,rfl⟩,⟨fun q e he=> ?_,fun q q' hq hq' hne=>absurd ((alq _ q hq).trans (alq _ q' hq').symm) hne,fun q hq=> ?_,fun q hq g hg=> ?_,fun g hg=>bp (cx.nl g hg) h2.size⟩,⟨[],rfl,rfl⟩,
      ⟨h2.grw,fun g hg _=>Below.block h2 g hg,fun g hg=> .inl hg,fun q hq g hg=> ?_⟩,fun q _ _=>rfl⟩
    · rw [Qe] at he
      split at he
      · rename_i e0; subst e0; cases he
        exact .inl ⟨hf,by rw[hc],by simp[Y7]⟩
      · cases he
    · rw[alq _ q hq,hf]; exact bH
    · rw[alq _ q hq,hf] at hg; cases hg
    · rw[alq _ q hq,hf] at hg; cases hg
  · simp only [aE, and_true] at hc
    rw[cR] at hL
    obtain ⟨rfl,ht,hr⟩:=JY hL
    have hg:g < w.heap.size:=(cc.1 hb).1
    rw[hc]
    have hm:xs.length≤9223372036854775807:=by unfold maxLen at hcap; omega
    refine Calls.mono (hS g cap xs w (holds_of_blockI hb ht) hg (by omega)) fun e w' he=> ?_
    obtain ⟨rfl,n,os,rfl⟩:=he
    obtain ⟨k1,k2,k3,k4,k5⟩:=grownBy_sortedI (w:=w) (g:=g) (n:=n) (os:=os) (Y7 xs).toArray
    have hlen:=UI xs
    refine ⟨_,_,_,gh,rfl,⟨rfl,rfl⟩,⟨fun q e he=> ?_,fun q q' hq hq' hne=>absurd ((alq _ q hq).trans (alq _ q' hq').symm) hne,fun q hq=> ?_,fun q hq g' hg'=> ?_,fun g' hg'=>bp (cx.nl g' hg') k4⟩,⟨[],rfl,rfl⟩,
      ⟨⟨k1,k2,k3,k4⟩,fun g' h1 h2=> ?_,fun g' h1=> .inl h1,fun q hq g' hg'=> ?_⟩,fun q _ _=>rfl⟩
    · rw [Qe] at he
      split at he
      · rename_i e0; subst e0; cases he
        refine .inr ⟨g,cap,_,[],hf,by rw[hc,hlen],heap_sortedI _ hb,by omega,hcap,by simpa [Sort.putCells] using hsz, ?_⟩
        show OwnL (Own .int _) [] (List.take ((Y7 xs).length*1) _) (Y7 xs)
        rw[cR,take_putCellsI cur (Y7 xs) (by have:cur.size=cap*1:=hsz; omega)]
        exact QdI fun x hx=>hr x (UC.1 hx)
      · cases he
    · rw[alq _ q hq]; exact cx.nd 0 ⟨_,rfl⟩
    · rw[alq _ q hq] at hg'; exact cx.no 0 ⟨_,rfl⟩ g' hg'
    · exact k5 g' h1 fun e0=>h2 0 ⟨_,rfl⟩ (by rw[hf]; cases e0; exact aB ..)
    · rw[alq _ q hq] at hg'; exact .inr ⟨0,⟨_,rfl⟩,hg'⟩
end Go.Proofs.YtgpdhgadmjfokaaGreat
namespace Go.Proofs.YtgpdhgadmjfokaaGreat
structure TO {α:Type _} (lt:α→α→Bool):Prop where
  irr:∀x,lt x x=false
  tr:∀x y z,lt x y=true→lt y z=true→lt x z=true
  tot:∀x y,lt x y=true∨x=y∨lt y x=true
def Z7 {α:Type _}[DecidableEq α](lt:α→α→Bool)(x:α):List α→List α
  | []=>[x]
  | y :: l=>if lt y x=true then y :: Z7 lt x l else if y=x then y :: l else x :: y :: l
def Yg {α:Type _}[DecidableEq α]:List α→List α
  | []=>[]
  | [x]=>[x]
  | x :: y :: l=>if x=y then Yg (y :: l) else x :: Yg (y :: l)
def ofG {α:Type _}[DecidableEq α](lt:α→α→Bool)(l:List α):List α:=l.foldl (fun s x=>Z7 lt x s) []
section
variable {α:Type _}[DecidableEq α]{lt:α→α→Bool}{l a b:List α}{x y z:α}{k:Nat}
omit [DecidableEq α] in
theorem TO.ext (h:TO lt):∀{a b:List α},a.Pairwise (fun x y=>lt x y=true)→b.Pairwise (fun x y=>lt x y=true)→(∀x,x∈a↔x∈b)→a=b
  | [],[],_,_,_=>rfl
  | [],y :: b,_,_,hm=>by have:=(hm y).2 (aB ..); cases this
  | x :: a,[],_,_,hm=>by have:=(hm x).1 (aB ..); cases this
  | x :: a,y :: b,ha,hb,hm=>by
    obtain ⟨a1,a2⟩:=bN.1 ha
    obtain ⟨b1,b2⟩:=bN.1 hb
    have hxy:x=y:=by
      rcases aJ.1 ((hm x).1 (aB ..)) with h1 | h1
      · exact h1
      · rcases aJ.1 ((hm y).2 (aB ..)) with h2 | h2
        · exact h2.symm
        · have := h.tr _ _ _ (a1 _ h2) (b1 _ h1)
          rw[h.irr] at this; cases this
    subst hxy
    congr 1
    refine h.ext a2 b2 fun z=>⟨fun hz=> ?_,fun hz=> ?_⟩
    · rcases aJ.1 ((hm z).1 (aC _ hz)) with h1 | h1
      · subst h1; have:=a1 _ hz; rw[h.irr] at this; cases this
      · exact h1
    · rcases aJ.1 ((hm z).2 (aC _ hz)) with h1 | h1
      · subst h1; have:=b1 _ hz; rw[h.irr] at this; cases this
      · exact h1
theorem Z4:z∈Z7 lt x l↔z=x∨z∈l:=by
  induction l with
  | nil=>simp[Z7]
  | cons y l ih=>
    unfold Z7
    split
    · rw [aJ, ih, aJ]
      constructor
      · rintro (h | h | h)
        · exact .inr (.inl h)
        · exact .inl h
        · exact .inr (.inr h)
      · rintro (h | h | h)
        · exact .inr (.inl h)
        · exact .inl h
        · exact .inr (.inr h)
    · split
      · rename_i h; subst h
        rw[aJ]
        exact ⟨fun h=>h.elim .inl fun h=> .inr (.inr h),fun h=>h.elim .inl id⟩
      · rw[aJ]
theorem Ju (h:TO lt)(hl:l.Pairwise (fun x y=>lt x y=true)):(Z7 lt x l).Pairwise (fun x y=>lt x y=true):=by
  induction l with
  | nil=>simp[Z7]
  | cons y l ih=>
    obtain ⟨h1,h2⟩:=bN.1 hl
    unfold Z7
    split
    · rename_i hy
      refine bN.2 ⟨fun z hz=> ?_,ih h2⟩
      rcases Z4.1 hz with rfl | hz
      · exact hy
      · exact h1 z hz
    · split
      · exact hl
      · rename_i hy hne
        have hxy:lt x y=true:=by
          rcases h.tot x y with h3 | h3 | h3
          · exact h3
          · exact absurd h3.symm hne
          · exact absurd h3 hy
        refine bN.2 ⟨fun z hz=> ?_,hl⟩
        rcases aJ.1 hz with rfl | hz
        · exact hxy
        · exact h.tr _ _ _ hxy (h1 z hz)
theorem QbL (h:TO lt):∀(l s:List α),s.Pairwise (fun x y=>lt x y=true)→(l.foldl (fun s x=>Z7 lt x s) s).Pairwise (fun x y=>lt x y=true)∧∀z,z∈l.foldl (fun s x=>Z7 lt x s) s↔z∈s∨z∈l
  | [],s,hs=>⟨hs,fun z=>by simp⟩
  | x :: l,s,hs=>by
    obtain ⟨h1,h2⟩:=QbL h l _ (Ju (x:=x) h hs)
    refine ⟨h1,fun z=> ?_⟩
    rw[aL,h2,Z4,aJ]
    constructor
    · rintro ((h | h) | h)
      · exact .inr (.inl h)
      · exact .inl h
      · exact .inr (.inr h)
    · rintro (h | h | h)
      · exact .inl (.inr h)
      · exact .inl (.inl h)
      · exact .inr h
theorem Vj (h:TO lt)(l:List α):(ofG lt l).Pairwise (fun x y=>lt x y=true):=(QbL h l [] cE).1
theorem Xb (h:TO lt)(l:List α):z∈ofG lt l↔z∈l:=by
  have:=(QbL h l [] cE).2 z
  simpa [ofG] using this
theorem VT:∀{l:List α},z∈Yg l↔z∈l
  | []=>Iff.rfl
  | [x]=>Iff.rfl
  | x :: y :: l=>by
    unfold Yg
    split
    · rename_i h; subst h
      rw[VT]
      exact ⟨aC _,fun h=>(aJ.1 h).elim (fun h=>by rw[h]; exact aB ..) id⟩
    · rw[aJ,VT,aJ (l:=y :: l)]
theorem QbU (h:TO lt):∀{l:List α},l.Pairwise (fun x y=>lt y x=false)→(Yg l).Pairwise (fun x y=>lt x y=true)
  | [],_=>cE
  | [x],_=>by simp[Yg]
  | x :: y :: l,hl=>by
    obtain ⟨h1,h2⟩:=bN.1 hl
    unfold Yg
    split
    · exact QbU h h2
    · rename_i hne
      refine bN.2 ⟨fun z hz=> ?_,QbU h h2⟩
      rw[VT] at hz
      rcases h.tot x z with h3 | h3 | h3
      · exact h3
      · subst h3
        rcases aJ.1 hz with h4 | h4
        · exact absurd h4 hne
        · have h5 := h1 y (aB ..)
          have h6:=(bN.1 h2).1 x h4
          rcases h.tot x y with h7 | h7 | h7
          · rw[h6] at h7; cases h7
          · exact absurd h7 hne
          · rw[h5] at h7; cases h7
      · have:=h1 z hz; rw[this] at h3; cases h3
theorem Qnr (h:TO lt){s l:List α}(hs:s.Pairwise (fun x y=>lt y x=false))(hm:∀z,z∈s↔z∈l):Yg s=ofG lt l:=
  h.ext (QbU h hs) (Vj h l) fun z=>by rw[VT,hm,Xb h]
theorem Qir:∀{k:Nat} {l:List α},(∀j,j < k→∀y,l[j]? =some y→lt y x=true)→k≤l.length→(∀y,l[k]? =some y→lt y x=false∧y≠x)→Z7 lt x l=l.take k++x :: l.drop k
  | 0,[],_,_,_=>rfl
  | 0,y :: l,_,_,h2=>by
    obtain ⟨h3,h4⟩:=h2 y rfl
    unfold Z7
    rw[if_neg (by rw[h3]; decide),if_neg h4]; rfl
  | k+1,[],_,hk,_=>by simp at hk
  | k+1,y :: l,h1,hk,h2=>by
    unfold Z7
    rw[if_pos (h1 0 (by omega) y rfl),Qir (k:=k) (fun j hj z hz=>h1 (j+1) (by omega) z (by simpa using hz)) (by simpa using hk) (fun z hz=>h2 z (by simpa using hz))]
    rfl
theorem QcB:∀{k:Nat} {l:List α},(∀j,j < k→∀y,l[j]? =some y→lt y x=true)→l[k]? =some x→lt x x=false→Z7 lt x l=l
  | 0,[],_,h,_=>by simp at h
  | 0,y :: l,_,h,h3=>by
    simp only[bQ,bf] at h
    subst h
    unfold Z7
    rw[if_neg (by rw[h3]; decide),if_pos rfl]
  | k+1,[],_,h,_=>by simp at h
  | k+1,y :: l,h1,h,h3=>by
    unfold Z7
    rw[if_pos (h1 0 (by omega) y rfl),QcB (k:=k) (fun j hj z hz=>h1 (j+1) (by omega) z (by simpa using hz)) (by simpa using h) h3]
end
def ltI (x y:Int):Bool:=decide (x < y)
theorem Zo:TO ltI:=⟨fun x=>by simp[ltI],fun x y z h1 h2=>by simp only[ltI,aS] at*; omega,fun x y=>by simp only[ltI,aS]; omega⟩
theorem Qng (l:List Int):Yg (Y7 l)=ofG ltI l:=Qnr Zo ((Vo l).imp fun h=>by simp only[ltI,cQ]; omega) fun _=>UC
end Go.Proofs.YtgpdhgadmjfokaaGreat
