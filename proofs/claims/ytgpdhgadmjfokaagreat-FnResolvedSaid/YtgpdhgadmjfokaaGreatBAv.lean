/- Steps of a walk that are found by themselves: tables of the types, one operation, one step of the control. -/
import Derived.Test.YtgpdhgadmjfokaaGreatBAf
import Derived.Test.YtgpdhgadmjfokaaGreatBAl
import Derived.Test.YtgpdhgadmjfokaaGreatBAu
import Derived.Laws.Shifts
import Derived.Laws.BitsAllLaws
import Derived.Test.YtgpdhgadmjfokaaGreatBAk
import Derived.Sort.EveryDepth
import Derived.Sort.OwnSortedInts
import Derived.Shelf.Sort.AssemblyIn
set_option linter.unusedSimpArgs false
set_option linter.unusedVariables false
set_option linter.unusedSectionVars false
namespace Go.Proofs.YtgpdhgadmjfokaaGreat
open Go.RowKit
set_option maxRecDepth 100000
theorem Qh5 {α:Type _}:∀{l:List (Nat×α)} {i:Nat} {x:α},lk l i=some x→(i,x)∈l
 | (j,y) :: l,i,x,h=>by
  rw[Wq] at h
  split at h
  ·rename_i e; cases h; subst e; exact ax ..
  ·exact aw _ (Qh5 h)
noncomputable def tshT:List (Nat×Bool×Nat):=[(0,false,1),(2,false,1),(3,false,1),(4,false,1),(5,false,1),(6,false,1),(8,true,4),(9,false,1),(10,false,1),(11,false,1),(12,false,1),(14,true,2),(15,false,1),(16,false,1),(17,false,1),(19,true,1),(20,false,1),(22,false,1),(23,false,1),(24,false,1),(25,false,1),(27,true,3),(28,false,1),(30,false,1),(32,false,1),(33,false,1),(35,false,1),(38,false,1),(41,false,1),(44,true,2),(46,true,4),(47,false,1),(52,false,1),(53,false,1),(57,false,1),(59,true,2),(60,false,1),(62,true,5),(64,false,1),(65,false,1),(67,false,1),(68,false,1),(71,true,3),(72,false,1),(74,false,1),(76,false,1),(79,false,1),(86,true,2),(87,false,1),(90,false,1),(95,false,1),(103,false,1),(107,true,2),(108,false,1),(111,false,1),(113,false,1),(116,false,1),(117,false,1),(119,true,3),(123,false,1),(130,false,1),(134,false,1),(141,true,4),(143,true,7),(144,false,1),(146,false,1),(148,false,1),(154,false,1),(158,false,1),(160,true,2),(161,false,1),(171,false,1),(172,false,1),(190,false,1),(199,false,1),(200,false,1),(201,false,1),(203,true,9),(207,true,2),(208,false,1),(209,false,1),(215,false,1),(221,false,1),(228,false,1),(230,false,1),(231,false,1),(236,false,1),(238,false,1),(241,false,1),(245,true,2),(250,true,6),(255,false,1),(257,false,1),(263,true,3),(265,true,3),(266,false,1),(282,false,1),(285,false,1),(287,true,8),(295,true,2),(298,false,1),(299,false,1),(305,false,1),(314,false,1),(316,false,1),(334,false,1),(335,false,1),(337,false,1),(339,false,1),(341,true,7),(347,false,1),(349,true,3),(352,false,1),(354,true,4),(359,false,1),(366,false,1),(370,false,1),(375,false,1),(378,false,1),(381,false,1),(383,false,1),(386,true,3),(391,false,1),(393,false,1),(397,false,1),(398,false,1),(416,false,1)]
noncomputable def fldT:List (Nat×Nat):=[(512,0),(513,1),(514,2),(515,3),(896,0),(897,1),(1216,0),(1728,0),(1729,1),(1730,2),(2816,0),(2817,1),(2944,0),(2945,1),(2946,2),(2947,3),(3776,0),(3777,1),(3968,0),(3969,2),(3970,3),(3971,4),(4544,0),(4545,1),(4546,2),(5504,0),(5505,1),(6848,0),(6849,1),(7616,0),(7617,1),(7618,2),(9024,0),(9025,2),(9152,0),(9153,4),(10240,0),(10241,1),(12992,0),(12993,3),(12994,4),(12995,7),(12996,8),(13248,0),(13249,1),(15680,0),(15681,1),(16000,0),(16001,2),(16002,3),(16003,4),(16004,5),(16832,0),(16833,1),(16834,2),(16960,0),(16961,1),(16962,2),(18368,0),(18369,3),(18370,4),(18371,5),(18880,0),(18881,1),(21824,0),(21825,5),(21826,6),(22336,0),(22337,1),(22338,2),(22656,0),(22657,1),(22658,2),(22659,3),(24704,0),(24705,1),(24706,2)]
noncomputable def sliT:List (Nat×Nat):=[(22,5),(23,44),(24,9),(25,46),(32,3),(52,141),(57,245),(60,86),(64,71),(67,32),(90,4),(158,263),(201,207),(221,295),(231,143),(266,265),(337,386)]
theorem QwZ:(tshT.all fun p=>decide (tsh Tryz.prog p.1=some p.2))=true:=by kernel_rfl
theorem QxF:(fldT.all fun p=>decide (fld Tryz.prog (p.1 / 64) (p.1 % 64)=some p.2))=true:=by kernel_rfl
noncomputable def strT:List Nat:=[9,10,11]
noncomputable def strB (T:Nat):Bool:=match Tryz.prog.underlying T with
 | some .string=>true
 | _=>false
theorem Qw5:(strT.all strB)=true:=by kernel_rfl
theorem Qyl {T:TypeId}(h:inB T strT=true):Tryz.prog.underlying T=some .string:=by
 have a:=au.1 Qw5 _ (Qh6.1 h)
 unfold strB at a
 split at a
 ·assumption
 ·cases a
noncomputable def sliB (T E:Nat):Bool:=match Tryz.prog.underlying T with
 | some (.slice E')=>Nat.beq E' E
 | _=>false
theorem Qxb:(sliT.all fun p=>sliB p.1 p.2)=true:=by kernel_rfl
theorem UW {T:TypeId}{b:Bool}{n:Nat}(h:lk tshT T=some (b,n)):tsh Tryz.prog T=some (b,n):=ab (au.1 QwZ _ (Qh5 h))
theorem QpZ {T f o:Nat}(h:lk fldT (Nat.add (Nat.mul 64 T) f)=some o)(a:Nat.blt f 64=true):fld Tryz.prog T f=some o:=by
 have b:=ab (au.1 QxF _ (Qh5 h))
 have a:=aI a
 rwa [show Nat.add (Nat.mul 64 T) f=64*T+f from rfl,show (64*T+f) / 64=T by omega,show (64*T+f) % 64=f by omega] at b
theorem QhU {T E:TypeId}(h:lk sliT T=some E):Tryz.prog.underlying T=some (.slice E):=by
 have a:=au.1 Qxb _ (Qh5 h)
 unfold sliB at a
 split at a
 ·rename_i b; rw[b,bd a]
 ·cases a
section
variable {A:Amb}{s s':St}{o:Oper}
theorem xlI {d:Nat}{x:Operand}{T ty:TypeId}{pos:String}{af:Array Edge}{g:Option (Nat×Bool)}{q a i j n:Nat}{E:TypeId}{e t:Ty}{xs:List e.Den}{z:e.Den}{b:t.Den}(B:Evl A s x (.ept q a i j))(m:s.tab.ent q=some (.arr E e xs))(w:a=e.wd)(C:xs[i]? =some z)(r:e.flat=true)(h:tsh Tryz.prog T=some (false,n))(u:(leaves e z)[j]? =some (.dat t b))(v:Nat.blt d A.n=true):Does A Tryz.prog ⟨some d, .load T x,ty,pos,af,g⟩ s (s.put d (lf (.dat t b))):=by
 subst w; exact Q3 B m C r h u v
theorem Qzf {d:Nat}{x:Operand}{T ty:TypeId}{pos:String}{af:Array Edge}{g:Option (Nat×Bool)}{q a i j n:Nat}{E:TypeId}{e:Ty}{xs:List e.Den}{z:e.Den}(v:Evl A s x (.ept q a i j))(h:s.tab.ent q=some (.arr E e xs))(u:a=e.wd)(w:xs[i]? =some z)(m:e.flat=true)(b:tsh Tryz.prog T=some (true,n))(r:Nat.ble (j+n) e.wd=true)(t:Nat.blt d A.n=true):Does A Tryz.prog ⟨some d, .load T x,ty,pos,af,g⟩ s (s.put d (ag (((leaves e z).drop j).take n))):=by
 subst u; exact Vn v h w m b r t
theorem D_ (h:Does A Tryz.prog o s s':=by
 first
 | ((with_reducible apply Xk); exact Qa rfl; rfl; exact UW rfl; rfl; rfl)
 | ((with_reducible apply ZL); exact Qa rfl; exact QpZ rfl rfl; rfl; rfl)
 | ((with_reducible apply Hh); rfl; rfl)
 | ((with_reducible apply Ul); rfl; rfl)
 | ((with_reducible apply QbO); rfl; rfl; rfl)
 | ((with_reducible apply JN); exact Qa rfl; rfl; exact UW rfl; rfl; rfl)
 | ((with_reducible apply QfM); (first | exact Qp rfl | exact Ze | exact Evl.str rfl | exact Evl.val); rfl)
 | ((with_reducible apply Wy); (first | exact Qp rfl | exact Ze | exact Evl.str rfl | exact Evl.val); rfl)
 | ((with_reducible apply Qi9); (first | exact Qa rfl | exact Qp rfl); (first | exact Qa rfl | exact Qp rfl); rfl)
 | ((with_reducible apply Yi); (first | exact Qa rfl | exact Qp rfl); (first | exact Qa rfl | exact Qp rfl); rfl)
 | ((with_reducible apply QaT); (first | exact Qa rfl | exact Qp rfl); (first | exact Qa rfl | exact Qp rfl); rfl)
 | ((with_reducible apply QjG); (first | exact Qa rfl | exact Qp rfl); (first | exact Qa rfl | exact Qp rfl); rfl)
 | ((with_reducible apply QbL); (first | exact Qa rfl | exact Qp rfl); (first | exact Qa rfl | exact Qp rfl); rfl)
 | ((with_reducible apply Qkl); (first | exact Qa rfl | exact Qp rfl); (first | exact Qa rfl | exact Qp rfl); rfl)
 | ((with_reducible apply XQ); (first | exact Qa rfl | exact Qp rfl); (first | exact Qa rfl | exact Qp rfl); rfl; omega)
 | ((with_reducible apply Vk); (first | exact Qa rfl | exact Qp rfl); (first | exact Qa rfl | exact Qp rfl); rfl; omega)
 | ((with_reducible apply Qi2); exact Qa rfl; rfl)
 | ((with_reducible apply QfB); exact Qa rfl; (first | exact Qo rfl | exact Evl.ev Ze | exact Evl.ev (Qp rfl)); rfl)
 | ((with_reducible apply Qfy); exact Qa rfl; (first | exact Qo rfl | exact Evl.ev Ze | exact Evl.ev (Qp rfl)); rfl)
 | ((with_reducible apply Qev); exact Qa rfl; exact UW rfl; rfl; rfl)
 | ((with_reducible apply QcU); exact Qa rfl; exact UW rfl; rfl; rfl)
 | ((with_reducible apply QcX); exact Qa rfl; exact QpZ rfl rfl; rfl)
 | ((with_reducible apply YU); exact Qa rfl; exact QpZ rfl rfl; rfl; rfl)
 | ((with_reducible apply Wl); exact Qa rfl; rfl; rfl)
 | ((with_reducible apply Qql); exact Qa rfl; rfl; rfl)
 | ((with_reducible apply Qhj); exact Qa rfl; rfl; rfl; exact QhU rfl)
 | ((with_reducible apply Does.len); exact Qa rfl; rfl; exact QhU rfl)
 | ((with_reducible apply VL); (first | exact Qa rfl | exact Evl.str rfl); (first | exact Qa rfl | exact Evl.str rfl); rfl)
 | ((with_reducible apply Qg2); (first | exact Qa rfl | exact Evl.str rfl); (first | exact Qa rfl | exact Evl.str rfl); rfl)
 | ((with_reducible apply QO); exact Qa rfl; rfl; (first | exact Qo rfl | exact Evl.ev (Qp rfl) | exact Evl.ev Ze | exact Evl.ev (Evl.str rfl) | exact Evl.ev (Qw _ rfl)); rfl; exact UW rfl; rfl)
 | ((with_reducible apply QcM); exact Qa rfl; (first | exact Qa rfl | exact Qp rfl); exact QhU rfl; exact UW rfl; rfl; omega; assumption)
 | ((with_reducible apply Uw); (first | exact Qa rfl | exact Evl.str rfl); (first | exact Qa rfl | exact Qp rfl); rfl; exact Qyl rfl; omega; assumption)
 | ((with_reducible apply QE); exact Qa rfl; rfl; (first | exact Qa rfl | exact Qp rfl); exact QhU rfl; exact UW rfl; rfl; omega; (first | omega | (simp only[az]; omega)))
 | ((with_reducible apply xlI); exact Qa rfl; rfl; rfl; assumption; rfl; exact UW rfl; rfl; rfl)
 | ((with_reducible apply Qzf); exact Qa rfl; rfl; rfl; assumption; rfl; exact UW rfl; rfl; rfl)
 | ((with_reducible apply Qr); exact Qa rfl; exact Qa rfl; rfl)
 | ((with_reducible apply Q4); exact Qa rfl; exact Qa rfl; rfl)):Does A Tryz.prog o s s':=h
theorem xbx {T ty:TypeId}{d:Nat}{x:Operand}{pos:String}{af:Array Edge}{ops:Array Oper}{l:List Oper}{Q:Exit→St→Prop}(t:Nat){b:Bool}{ls:List LV}(k:AL A Tryz.prog ops l Q (s.new d t (.ptr t 0) (.box T ls)))(m:Ev A s x (b,ls):=by first | exact Qo rfl | exact Evl.ev (Qp rfl) | exact Evl.ev Ze | exact Evl.ev (Evl.str rfl))(h:QQ s.tab ls=true:=by rfl)(j:Nat.blt d A.n=true:=by rfl)(a:Fresh s t:=by exact Fresh.of rfl)(e:A.k0≤t:=by exact nlr rfl):AL A Tryz.prog ops (⟨some d, .box T x,ty,pos,af,none⟩ :: l) Q s:=lc (Qrf t m h j a e) k
theorem xal {T ty:TypeId}{d:Nat}{pos:String}{af:Array Edge}{g:Option (Nat×Bool)}(k:Nat)(t:Ty){z:Value}(j:zer Tryz.prog T=some z)(e:z.cells.toList=t.zeros:=by rfl)(h:Nat.blt d A.n=true:=by rfl)(a:Fresh s k:=by exact Fresh.of rfl)(b:A.k0≤k:=by exact nlr rfl):Does A Tryz.prog ⟨some d, .alloc T,ty,pos,af,g⟩ s (s.new d k (.ptr k 0) (.box T t.zlv)):=Xq k t j e h a b
theorem e1_ {i:Nat}{b:Bool}{ls:List LV}(h:lk s.tm i=some (.cm b ls):=by rfl):EvL A s [.tmp i] [(b,ls)]:=⟨_,_,rfl,Qo h,rfl⟩
theorem e2_ {i j:Nat}{b c:Bool}{ls a:List LV}(h:lk s.tm i=some (.cm b ls):=by rfl)(k:lk s.tm j=some (.cm c a):=by rfl):EvL A s [.tmp i, .tmp j] [(b,ls),(c,a)]:=⟨_,_,rfl,Qo h,_,_,rfl,Qo k,rfl⟩
theorem Qys {P:Program}{c:Code}{Q:Exit→St→Prop}(h:AC A P c Q s):AC A P c Q s:=h
theorem wI {G G':Prop}(h:G'→G:=by
 first
 | ((with_reducible apply lm); rfl; rfl)
 | ((with_reducible apply lgn); rfl; rfl; rfl)
 | ((with_reducible apply lc); exact D_)
 | ((with_reducible apply lgy); rfl; rfl; exact D_)
 | (with_reducible exact Qt6)
 | (with_reducible exact Qy5)
 | (with_reducible exact Yo)
 | ((with_reducible apply Qtx); exact Qa rfl)
 | ((with_reducible apply QrJ); exact Qa rfl)
 | (with_reducible exact Qst)
 | (with_reducible exact QrR)
 | (with_reducible exact Qgs)
 | (with_reducible exact AC.skip)
 | (with_reducible exact Qiy)
 | (with_reducible exact Qd)
 | exact Qys):G'→G:=h
theorem w_ {G G':Prop}(k:G')(h:G'→G:=by exact wI):G:=h k
end
def rlm:Nat→List Nat→List Nat
 | _,[]=>[]
 | b,r :: rs=>Nat.sub (Nat.sub b 1) r :: rlm (Nat.mul 2 b) rs
def QmD (l:List Oper)(plan:List Item)(deps:List (List Nat)):Bool:=Nat.beq l.length plan.length&&(QdY l.toArray deps plan.length&&Qd0 plan deps&&QbU l.toArray plan.length)
def ActsH (A:Amb)(P:Program)(l0:List Oper)(plan:List Item)(deps:List (List Nat))(s0:St):List Oper→List Item→Nat→Prop
 | o :: l,it :: p,i=>(∀s,At plan deps s0 i s→Acts A P l0.toArray o s (QaW s it))∧ActsH A P l0 plan deps s0 l p (i+1)
 | [],_,_=>QmD l0 plan deps=true
 | _ :: _,[],_=>QmD l0 plan deps=true
section
variable {A:Amb}{P:Program}{s s' s0:St}{Q:Exit→St→Prop}{l0 l:List Oper}{o:Oper}{it:Item}{p plan:List Item}{deps:List (List Nat)}{i:Nat}
theorem ActsH.to:∀{l:List Oper} {p:List Item} {i:Nat},ActsH A P l0 plan deps s0 l p i→ActsL A P l0.toArray plan deps s0 l p i∧QmD l0 plan deps=true
 | _ :: _,_ :: _,_,h=>⟨⟨h.1,(ActsH.to h.2).1⟩,(ActsH.to h.2).2⟩
 | [],_,_,h=>⟨trivial,h⟩
 | _ :: _,[],_,h=>⟨trivial,h⟩
theorem Qyo {q:Nat}(a:At plan deps s0 i s)(h:(se plan deps s0 i q).isSome=true):(s.tab.ent q).isSome=true:=by
 obtain ⟨x,b⟩:=bg.1 h
 rw[a.n _ b]; rfl
theorem DH_ (h:Does A Tryz.prog o s s':=by
 first
 | ((with_reducible apply QfB); exact At.v ‹_› rfl; (first | exact At.w ‹_› rfl | exact Evl.ev Ze | exact Evl.ev (Qp rfl)); rfl)
 | ((with_reducible apply Qfy); exact At.v ‹_› rfl; (first | exact At.w ‹_› rfl | exact Evl.ev Ze | exact Evl.ev (Qp rfl)); rfl)
 | ((with_reducible apply Xk); exact At.v ‹_› rfl; exact At.n ‹_› _ rfl; exact UW rfl; rfl; rfl)
 | ((with_reducible apply JN); exact At.v ‹_› rfl; exact At.n ‹_› _ rfl; exact UW rfl; rfl; rfl)
 | ((with_reducible apply Hh); exact At.k ‹_› rfl; rfl)
 | ((with_reducible apply Ul); exact At.k ‹_› rfl; rfl)
 | ((with_reducible apply QbO); exact At.k ‹_› rfl; rfl; rfl)
 | ((with_reducible apply QfM); (first | exact Qp rfl | exact Ze | exact Evl.str rfl | exact Evl.val); rfl)
 | ((with_reducible apply Wy); (first | exact Qp rfl | exact Ze | exact Evl.str rfl | exact Evl.val); rfl)
 | ((with_reducible apply Qev); exact At.v ‹_› rfl; exact UW rfl; rfl; rfl)
 | ((with_reducible apply QcU); exact At.v ‹_› rfl; exact UW rfl; rfl; rfl)
 | ((with_reducible apply QcX); exact At.v ‹_› rfl; exact QpZ rfl rfl; rfl)
 | ((with_reducible apply Does.len); exact At.v ‹_› rfl; rfl; exact QhU rfl)
 | ((with_reducible apply Qhj); exact At.v ‹_› rfl; exact At.n ‹_› _ rfl; rfl; exact QhU rfl)
 | ((with_reducible apply Qi9); (first | exact At.v ‹_› rfl | exact Qp rfl); (first | exact At.v ‹_› rfl | exact Qp rfl); rfl)
 | ((with_reducible apply Yi); (first | exact At.v ‹_› rfl | exact Qp rfl); (first | exact At.v ‹_› rfl | exact Qp rfl); rfl)
 | ((with_reducible apply QaT); (first | exact At.v ‹_› rfl | exact Qp rfl); (first | exact At.v ‹_› rfl | exact Qp rfl); rfl)
 | ((with_reducible apply QjG); (first | exact At.v ‹_› rfl | exact Qp rfl); (first | exact At.v ‹_› rfl | exact Qp rfl); rfl)
 | ((with_reducible apply QbL); (first | exact At.v ‹_› rfl | exact Qp rfl); (first | exact At.v ‹_› rfl | exact Qp rfl); rfl)
 | ((with_reducible apply Qkl); (first | exact At.v ‹_› rfl | exact Qp rfl); (first | exact At.v ‹_› rfl | exact Qp rfl); rfl)
 | ((with_reducible apply XQ); (first | exact At.v ‹_› rfl | exact Qp rfl); (first | exact At.v ‹_› rfl | exact Qp rfl); rfl; omega)
 | ((with_reducible apply Vk); (first | exact At.v ‹_› rfl | exact Qp rfl); (first | exact At.v ‹_› rfl | exact Qp rfl); rfl; omega)
 | ((with_reducible apply Qi2); exact At.v ‹_› rfl; rfl)
 | ((with_reducible apply VL); (first | exact At.v ‹_› rfl | exact Evl.str rfl); (first | exact At.v ‹_› rfl | exact Evl.str rfl); rfl)
 | ((with_reducible apply Qg2); (first | exact At.v ‹_› rfl | exact Evl.str rfl); (first | exact At.v ‹_› rfl | exact Evl.str rfl); rfl)
 | ((with_reducible apply Qr); exact At.v ‹_› rfl; exact At.v ‹_› rfl; rfl)
 | ((with_reducible apply Q4); exact At.v ‹_› rfl; exact At.v ‹_› rfl; rfl)
 | ((with_reducible apply ZL); exact At.v ‹_› rfl; exact QpZ rfl rfl; exact Qyo ‹_› rfl; rfl)
 | ((with_reducible apply Wl); exact At.v ‹_› rfl; exact Qyo ‹_› rfl; rfl)
 | ((with_reducible apply Uw); (first | exact At.v ‹_› rfl | exact Evl.str rfl); (first | exact At.v ‹_› rfl | exact Qp rfl); rfl; exact Qyl rfl; omega; assumption)
 | ((with_reducible apply QcM); exact At.v ‹_› rfl; (first | exact At.v ‹_› rfl | exact Qp rfl); exact QhU rfl; exact UW rfl; rfl; omega; assumption)
 | ((with_reducible apply QO); exact At.v ‹_› rfl; exact At.n ‹_› _ rfl; (first | exact At.w ‹_› rfl | exact Evl.ev (Qp rfl) | exact Evl.ev Ze); rfl; exact UW rfl; rfl)):Does A Tryz.prog o s s':=h
theorem zz (h:∀s,At plan deps s0 i s→Acts A P l0.toArray o s (QaW s it))(k:ActsH A P l0 plan deps s0 l p (i+1)):ActsH A P l0 plan deps s0 (o :: l) (it :: p) i:=⟨h,k⟩
theorem zI (h:∀s,At plan deps s0 i s→Acts A Tryz.prog l0.toArray o s (QaW s it):=by
 first
 | ((with_reducible apply dxm); rfl; rfl)
 | ((with_reducible apply dxf); exact QpZ rfl rfl; rfl; rfl; rfl)
 | ((with_reducible apply dxl); exact UW rfl; rfl; rfl; rfl; rfl; rfl)
 | ((with_reducible apply dxt); rfl; rfl)
 | ((with_reducible apply dxn); rfl; rfl; rfl)
 | ((with_reducible apply dxa); exact UW rfl; rfl; rfl; rfl; rfl)
 | ((with_reducible apply dxo); rfl; rfl; rfl)
 | (intro _ _; (apply ac); exact DH_; rfl)
 | (intro _ _; (apply day); rfl; exact At.k ‹_› rfl; exact DH_; rfl)
 | (intro _ _; (apply QtF); rfl; rfl; exact At.k ‹_› rfl; rfl; rfl)):ActsH A Tryz.prog l0 plan deps s0 l p (i+1)→ActsH A Tryz.prog l0 plan deps s0 (o :: l) (it :: p) i:=fun k=>⟨h,k⟩
theorem z_ {G G':Prop}(k:G')(h:G'→G:=by exact zI):G:=h k
theorem zN (h:QmD l0 plan deps=true:=by kernel_rfl):ActsH A Tryz.prog l0 plan deps s0 [] [] i:=h
theorem dW {id:Nat}{y:Code}(plan:List Item)(e:List Nat)(H:ActsH A Tryz.prog l plan (dms (rlm 1 e)) s0 l plan 0)(k:AC A Tryz.prog y Q (stD plan s0 fun _=>true)):AC A Tryz.prog (.seq (.region id l.toArray true) y) Q s0:=by
 obtain ⟨b,a⟩:=H.to
 rw[QmD,aL] at a
 exact dw plan _ mixed (bd a.1) a.2 b k
theorem dV {id:Nat}(plan:List Item)(e:List Nat)(H:ActsH A Tryz.prog l plan (dms (rlm 1 e)) s0 l plan 0)(k:Q .normal (stD plan s0 fun _=>true)):AC A Tryz.prog (.region id l.toArray true) Q s0:=by
 obtain ⟨b,a⟩:=H.to
 rw[QmD,aL] at a
 exact dv plan _ mixed (bd a.1) a.2 b k
theorem dZ {id:Nat}{y:Code}{b:Exit→St→Prop}(plan:List Item)(h:List Nat)(H:ActsH A Tryz.prog l plan (dms (rlm 1 h)) s0 l plan 0)(k:AC A Tryz.prog y b (stD plan s0 fun _=>true)):AC A Tryz.prog (.region id l.toArray true) (HS (AC A Tryz.prog y b) Q) s0:=by
 obtain ⟨e,a⟩:=H.to
 rw[QmD,aL] at a
 exact dz plan _ mixed (bd a.1) a.2 e k
end
section
variable {A:Amb}{s:St}{f:FuncId}{xs:List Operand}{tys:Array TypeId}{args:List (Bool×List LV)}{d k:Nat}{ty T:TypeId}{pos:String}{af:Array Edge}{g:Option (Nat×Bool)}{pv:PV}{U U':Tab}{x y:Operand}
theorem evN:EvL A s [] []:=rfl
theorem evC {c:Bool×List LV}{cs:List (Bool×List LV)}(h:Ev A s x c)(k:EvL A s xs cs):EvL A s (x :: xs) (c :: cs):=⟨_,_,rfl,h,k⟩
theorem ebN:EvLB A s [] []:=rfl
theorem ebC {c:Bool×List LV}{cs:List (Bool×List LV)}(h:EvB A s x c)(k:EvLB A s xs cs):EvLB A s (x :: xs) (c :: cs):=⟨_,_,rfl,h,k⟩
theorem abN {e:Ty}:AbsL U e [] [] []:=⟨rfl,rfl⟩
theorem abC {e:Ty}{c:Bool×List LV}{cs:List (Bool×List LV)}{z:e.Den}{zs:List e.Den}{a b:List Nat}(h:Abs U e c.2 z a)(k:AbsL U e cs zs b):AbsL U e (c :: cs) (z :: zs) (a++b):=⟨_,_,_,_,rfl,h,k,rfl⟩
theorem dK (e:FC Tryz.prog f args [] 0 (Q7 pv))(a:Qh Tryz.prog f)(b:EvL A s xs args:=by repeat' first | exact evN | exact Qo rfl | exact At.w ‹_› rfl | exact Evl.ev (Qp rfl) | exact Evl.ev Ze | exact Evl.ev (Evl.str rfl) | apply evC)(j:pv.tags=[]:=by rfl)(h:Nat.blt d A.n=true:=by rfl):Does A Tryz.prog ⟨some d, .call ⟨.value (.func f),xs.toArray,tys⟩,ty,pos,af,g⟩ s (s.put d pv):=Hb e a b j h
theorem dB_ (h:FC Tryz.prog f args [] 0 (Q7 pv))(a:Qh Tryz.prog f)(e:EvLB A s xs args:=by repeat' first | exact ebN | exact Ev.b (Qo rfl) | exact Ev.b (At.w ‹_› rfl) | exact Ev.b (Evl.ev (Qp rfl)) | exact Ev.b (Evl.ev Ze) | exact Ev.b (Evl.ev (Evl.str rfl)) | exact Qb5 (Qa rfl) rfl | exact Qb5 (At.v ‹_› rfl) (At.n ‹_› _ rfl) | apply ebC)(q:pv.tags=[]:=by rfl)(j:pv.fl=true:=by rfl)(m:Nat.blt d A.n=true:=by rfl):Does A Tryz.prog ⟨some d, .call ⟨.value (.func f),xs.toArray,tys⟩,ty,pos,af,g⟩ s (s.put d pv):=YF h a e q j m
theorem dO (t:Nat){E:TypeId}{e:Ty}{zs:List e.Den}(m:FC Tryz.prog f args [] 0 (YJ E e zs))(h:Qh Tryz.prog f)(j:EvL A s xs args:=by repeat' first | exact evN | exact Qo rfl | exact At.w ‹_› rfl | exact Evl.ev (Qp rfl) | exact Evl.ev Ze | exact Evl.ev (Evl.str rfl) | apply evC)(q:Nat.blt d A.n=true:=by rfl)(a:Fresh s t:=by first | exact Fresh.of rfl | exact At.fr ‹_› _ rfl)(b:A.k0≤t:=by exact nlr rfl):Does A Tryz.prog ⟨some d, .call ⟨.value (.func f),xs.toArray,tys⟩,ty,pos,af,g⟩ s (s.mk_ d t [] E e zs):=QkT t m h j q a b
theorem dOB (t:Nat){E:TypeId}{e:Ty}{zs:List e.Den}(q:FC Tryz.prog f args [] 0 (YJ E e zs))(j:Qh Tryz.prog f)(m:EvLB A s xs args:=by repeat' first | exact ebN | exact Ev.b (Qo rfl) | exact Ev.b (At.w ‹_› rfl) | exact Ev.b (Evl.ev (Qp rfl)) | exact Ev.b (Evl.ev Ze) | exact Ev.b (Evl.ev (Evl.str rfl)) | exact Qb5 (Qa rfl) rfl | exact Qb5 (At.v ‹_› rfl) (At.n ‹_› _ rfl) | apply ebC)(r:Nat.blt d A.n=true:=by rfl)(a:Fresh s t:=by first | exact Fresh.of rfl | exact At.fr ‹_› _ rfl)(h:A.k0≤t:=by exact nlr rfl):Does A Tryz.prog ⟨some d, .call ⟨.value (.func f),xs.toArray,tys⟩,ty,pos,af,g⟩ s (s.mk_ d t [] E e zs):=Yr t q j m r a h
theorem dG (n:Nat)(m:FC Tryz.prog f args [] 0 (Is pv U))(h:Qh Tryz.prog f)(j:EvL A s xs args:=by repeat' first | exact evN | exact Qo rfl | exact At.w ‹_› rfl | exact Evl.ev (Qp rfl) | exact Evl.ev Ze | exact Evl.ev (Evl.str rfl) | apply evC)(a:YD pv U=true:=by rfl)(q:Nat.blt d A.n=true:=by rfl)(b:FrL s n (ZN U):=by repeat' first | exact trivial | exact Fresh.of rfl | exact At.fr ‹_› _ rfl | apply And.intro)(e:A.k0≤n:=by exact nlr rfl):Does A Tryz.prog ⟨some d, .call ⟨.value (.func f),xs.toArray,tys⟩,ty,pos,af,g⟩ s (s.back d n pv U):=QkB n m h j a q b e
theorem dP (n:Nat)(ρ:List (Nat×Nat))(q:FC Tryz.prog f args U k (Is pv U'))(h:Qh Tryz.prog f)(m:EvL A s xs (args.map fun c=>(c.1,c.2.map (LV.ren (rn ρ)))):=by repeat' first | exact evN | exact Qo rfl | exact At.w ‹_› rfl | exact Evl.ev (Qp rfl) | exact Evl.ev Ze | exact Evl.ev (Evl.str rfl) | apply evC)(j:HasE s ρ U:=by repeat' first | exact rfl | exact trivial | exact At.n ‹_› _ rfl | apply And.intro)(e:(WR (U.map fun p=>rn ρ p.1)&&YD pv U'&&WR (U'.map fun p=>sg ρ k n p.1)&&QjS U U' k&&Nat.blt d A.n)=true:=by rfl)(a:FrK s n k (ZN U'):=by repeat' first | exact trivial | exact Fresh.of rfl | exact At.fr ‹_› _ rfl | apply And.intro)(b:A.k0≤n:=by exact nlr rfl):Does A Tryz.prog ⟨some d, .call ⟨.value (.func f),xs.toArray,tys⟩,ty,pos,af,g⟩ s (s.backP d (sg ρ k n) (U.map fun p=>rn ρ p.1) pv U'):=QlC n ρ q h m j e a b
theorem dA {q a:Nat}{E:TypeId}{e:Ty}{us ys:List e.Den}(t:Nat)(r:WH Tryz.prog E e.wd=true)(B:Evl A s x (.ref q):=by first | exact Qa rfl | exact At.v ‹_› rfl)(w:s.tab.ent q=some (.arr E e us):=by first | exact rfl | exact At.n ‹_› _ rfl)(C:Evl A s y (.ref a):=by first | exact Qa rfl | exact At.v ‹_› rfl)(b:s.tab.ent a=some (.arr E e ys):=by first | exact rfl | exact At.n ‹_› _ rfl)(m:Nat.beq q a=false:=by rfl)(u:Tryz.prog.underlying T=some (.slice E):=by exact QhU rfl)(hb:us.length+ys.length≤1073741824:=by first | omega | (simp only[ae,aC,ap,aj,aA]; omega) | (simp only[ae,bo,ap,aj,aA]; omega))(z:Nat.blt d A.n=true:=by rfl)(h:Fresh s t:=by first | exact Fresh.of rfl | exact At.fr ‹_› _ rfl)(j:A.k0≤t:=by exact nlr rfl):Does A Tryz.prog ⟨some d, .call {callee:= .builtin .append,args:= #[x,y],argTypes:= #[T,T]},ty,pos,af,g⟩ s (s.mk_ d t [q,a] E e (us++ys)):=QjD t B w C b m u r hb z h j
theorem dBs (t:Nat){E:TypeId}{e:Ty}{n:Nat}{a:Array (Nat×Operand)}{h:List (Bool×List LV)}{us:List e.Den}{b:List Nat}{B:Bool}{z:Value}(G:zer Tryz.prog E=some z)(D:Tryz.prog.underlying T=some (.slice E):=by exact QhU rfl)(C:tsh Tryz.prog E=some (B,e.wd):=by exact UW rfl)(r:a.toList.map (·.1)=List.range n:=by rfl)(hv:EvL A s (a.toList.map (·.2)) h:=by repeat' first | exact evN | exact Qo rfl | exact At.w ‹_› rfl | exact Evl.ev (Qp rfl) | exact Evl.ev Ze | exact Evl.ev (Evl.str rfl) | apply evC)(q:∀c∈h,QQ s.tab c.2=true:=by exact au.1 rfl)(hab:AbsL s.tab e h us b:=by repeat' first | exact abN | exact ⟨rfl,rfl⟩ | apply abC)(v:b.Nodup:=by decide)(u:Nat.ble (n*e.wd) 16777216=true:=by rfl)(F:Nat.blt d A.n=true:=by rfl)(j:Fresh s t:=by first | exact Fresh.of rfl | exact At.fr ‹_› _ rfl)(m:A.k0≤t:=by exact nlr rfl):Does A Tryz.prog ⟨some d, .buildSlice T n a,ty,pos,af,g⟩ s (s.mk_ d t b E e us):=Vp t D C G r hv q hab v u F j m
end
section
variable {A:Amb}{s s1:St}{Q:Exit→St→Prop}{ops:Array Oper}{l:List Oper}{c x y:Code}{fn:Func}{k:Nat}{O O':PV→Tab→Prop}{pv pv0:PV}{T:Tab}
theorem alL (t:Nat){E:TypeId}{e:Ty}{u:List e.Den}(k:u.length≤9223372036854775807→AL A Tryz.prog ops l Q s)(h:Evl A s (.tmp t) (.dat (.sl E e) u):=by exact Qa rfl):AL A Tryz.prog ops l Q s:=AL.fact (Qs3 h) k
theorem alS (t:Nat){u:ByteArray}(k:u.size≤9223372036854775807→AL A Tryz.prog ops l Q s)(h:Evl A s (.tmp t) (dS u):=by exact Qa rfl):AL A Tryz.prog ops l Q s:=AL.fact (QoZ h) k
theorem alI (t:Nat){n:Int}(k: -9223372036854775808≤n∧n≤9223372036854775807→AL A Tryz.prog ops l Q s)(h:Evl A s (.tmp t) (dI n):=by exact Qa rfl):AL A Tryz.prog ops l Q s:=AL.fact (QjX h) k
theorem acI (t:Nat){n:Int}(k: -9223372036854775808≤n∧n≤9223372036854775807→AC A Tryz.prog c Q s)(h:Evl A s (.tmp t) (dI n):=by exact Qa rfl):AC A Tryz.prog c Q s:=AC.fact (QjX h) k
theorem acG (t i:Nat){ls:List LV}{n:Int}(k: -9223372036854775808≤n∧n≤9223372036854775807→AC A Tryz.prog c Q s)(h:Ev A s (.tmp t) (true,ls):=by exact Qo rfl)(hi:ls[i]? =some (dI n):=by rfl):AC A Tryz.prog c Q s:=AC.fact (Qvq h hi) k
theorem cd_ {z:Operand}{p:Prop}{a:Decidable p}(e: @decide p a=false→¬p→AC A Tryz.prog y Q s)(j: @decide p a=true→p→AC A Tryz.prog x Q s)(b:Evl A s z (dB (@decide p a)):=by exact Qa rfl):AC A Tryz.prog (.cond z x y) Q s:=Hn b (fun h=>j h (ab h)) fun h=>e h (aa h)
theorem cn_ {z:Operand}{p:Prop}{a:Decidable p}(e:(!@decide p a)=false→p→AC A Tryz.prog y Q s)(j:(!@decide p a)=true→¬p→AC A Tryz.prog x Q s)(b:Evl A s z (dB (!@decide p a)):=by exact Qa rfl):AC A Tryz.prog (.cond z x y) Q s:=Hn b (fun h=>j h (QS h)) fun h=>e h (QM h)
theorem cb_ {z:Operand}{b:Bool}(e:b=false→AC A Tryz.prog y Q s)(h:b=true→AC A Tryz.prog x Q s)(a:Evl A s z (dB b):=by exact Qa rfl):AC A Tryz.prog (.cond z x y) Q s:=Hn a h e
theorem cx_ {z:Operand}{b:Bool}(e:b=false→AC A Tryz.prog x Q s)(j:b=true→AC A Tryz.prog y Q s)(a:Evl A s z (dB (!b)):=by exact Qa rfl):AC A Tryz.prog (.cond z x y) Q s:=Hn a (fun h=>e (by simpa using h)) fun h=>j (by simpa using h)
theorem rs_ {r:ResultVar}{d:Bool×List LV}(h:Rs A Tryz.prog s r d:=by first | exact UJ rfl | exact Rs.cell rfl rfl (UW rfl) rfl | exact Qty rfl rfl (UW rfl)):Rs A Tryz.prog s r d:=h
theorem re_ (h:Res A Tryz.prog fn s pv:=by first | exact Res.one rfl rs_ | exact W8 rfl rs_ rs_ | exact Qpq rfl rs_ rs_ rs_ | exact QsJ rfl rs_ rs_ rs_ rs_ | exact QsI rfl):Res A Tryz.prog fn s pv:=h
theorem fe_ (a:O=Q7 pv)(h:Res A Tryz.prog fn s pv:=by exact re_)(b:pv.tags=[]:=by rfl):fin A Tryz.prog fn (Qav O k) .ret s:=by subst a; exact Kd h rfl b
theorem fqI {u v:Int}(a:O=Q7 (lf (dI v)))(e:u=v)(h:Res A Tryz.prog fn s (lf (dI u)):=by exact re_):fin A Tryz.prog fn (Qav O k) .ret s:=by subst a; subst e; exact Kd h rfl rfl
theorem fqB {u v:Bool}(a:O=Q7 (lf (dB v)))(e:u=v)(h:Res A Tryz.prog fn s (lf (dB u)):=by exact re_):fin A Tryz.prog fn (Qav O k) .ret s:=by subst a; subst e; exact Kd h rfl rfl
theorem fqS {u v:ByteArray}(a:O=Q7 (lf (dS v)))(e:u=v)(h:Res A Tryz.prog fn s (lf (dS u)):=by exact re_):fin A Tryz.prog fn (Qav O k) .ret s:=by subst a; subst e; exact Kd h rfl rfl
theorem fq_ {t:Ty}{u v:t.Den}(a:O=Q7 (lf (.dat t v)))(e:u=v)(h:Res A Tryz.prog fn s (lf (.dat t u)):=by exact re_):fin A Tryz.prog fn (Qav O k) .ret s:=by subst a; subst e; exact Kd h rfl rfl
theorem fr_ (a:O=Q7 pv)(h:Res A Tryz.prog fn s pv0:=by exact re_)(e:pv0=pv)(b:pv.tags=[]:=by rfl):fin A Tryz.prog fn (Qav O k) .ret s:=by subst a; exact Kd h e b
theorem fo_ {q:Nat}{E:TypeId}{e:Ty}{u v:List e.Den}(a:O=YJ E e v)(j:u=v)(h:Res A Tryz.prog fn s (lf (.ref q)):=by exact re_)(b:s.tab.ent q=some (.arr E e u):=by rfl):fin A Tryz.prog fn (Qav O 0) .ret s:=by subst a; exact Qt5 h b j
theorem fi_ (ρ:List (Nat×Nat))(j:O=Is pv T)(b:HasE ⟨[],s.tab⟩ ρ T)(a:Res A Tryz.prog fn s pv0:=by exact re_)(h0:pv0=pv.ren (rn ρ):=by rfl)(e:WR (T.map fun x=>rn ρ x.1)=true:=by rfl)(h:idB ρ k=true:=by rfl):fin A Tryz.prog fn (Qav O k) .ret s:=by subst j; exact QwH pv T ρ a h0 b e h
theorem lp0 (n:Nat)(F:Nat→St)(j:Wk A s (F 0))(a:∀k,k≤n→AC A Tryz.prog c (HS (fun s1=>k+1≤n∧Wk A s1 (F (k+1))) Q) (F k)):AC A Tryz.prog (.loop c) Q s:=
 QL (fun m s=>∃k,k≤n∧m=n - k∧s=F k) ⟨0,aS _,rfl,rfl⟩ j (by
  rintro m s ⟨k,b,rfl,rfl⟩
  refine (a k b).mono fun e s h=> ?_
  cases e <;> first | exact h | exact ⟨n - (k+1),_,by have:=h.1; omega,h.2,k+1,h.1,rfl,rfl⟩)
theorem lpK (n:Nat)(J:Nat→Prop)(F:Nat→St)(q:J 0)(r:Wk A s (F 0))(a:∀k,k≤n→J k→AC A Tryz.prog c (HS (fun s1=>k+1≤n∧J (k+1)∧Wk A s1 (F (k+1))) Q) (F k)):AC A Tryz.prog (.loop c) Q s:=
 QL (fun m s=>∃k,k≤n∧m=n - k∧J k∧s=F k) ⟨0,aS _,rfl,q,rfl⟩ r (by
  rintro m s ⟨k,j,rfl,b,rfl⟩
  refine (a k j b).mono fun e s h=> ?_
  cases e <;> first | exact h | exact ⟨n - (k+1),_,by have:=h.1; omega,h.2.2,k+1,h.1,rfl,h.2.1,rfl⟩)
theorem l0_ {n:Nat}{a:St}(w:Wk A s1 a)(h:k+1≤n:=by omega):k+1≤n∧Wk A s1 a:=⟨h,w⟩
theorem lK_ {n:Nat}{J:Prop}{a:St}(j:J)(w:Wk A s1 a)(h:k+1≤n:=by omega):k+1≤n∧J∧Wk A s1 a:=⟨h,j,w⟩
end
@[reducible] def bx (q E:Nat) (cs:List LV):Nat×Option Ent:=(q,some (.box E cs))
@[reducible] def ar (q E:Nat) (e:Ty) (xs:List e.Den):Nat×Option Ent:=(q,some (.arr E e xs))
@[reducible] def i2 (d:Nat) (a0 a1:PV) (l:List Item):List Item:=io (d) a0 :: io (Nat.succ (d)) a1 :: l
@[reducible] def i3 (d:Nat) (a0 a1 a2:PV) (l:List Item):List Item:=io (d) a0 :: io (Nat.succ (d)) a1 :: io (Nat.succ (Nat.succ (d))) a2 :: l
@[reducible] def i4 (d:Nat) (a0 a1 a2 a3:PV) (l:List Item):List Item:=io (d) a0 :: io (Nat.succ (d)) a1 :: io (Nat.succ (Nat.succ (d))) a2 :: io (Nat.succ (Nat.succ (Nat.succ (d)))) a3 :: l
@[reducible] def i5 (d:Nat) (a0 a1 a2 a3 a4:PV) (l:List Item):List Item:=io (d) a0 :: io (Nat.succ (d)) a1 :: io (Nat.succ (Nat.succ (d))) a2 :: io (Nat.succ (Nat.succ (Nat.succ (d)))) a3 :: io (Nat.succ (Nat.succ (Nat.succ (Nat.succ (d))))) a4 :: l
@[reducible] def i6 (d:Nat) (a0 a1 a2 a3 a4 a5:PV) (l:List Item):List Item:=io (d) a0 :: io (Nat.succ (d)) a1 :: io (Nat.succ (Nat.succ (d))) a2 :: io (Nat.succ (Nat.succ (Nat.succ (d)))) a3 :: io (Nat.succ (Nat.succ (Nat.succ (Nat.succ (d))))) a4 :: io (Nat.succ (Nat.succ (Nat.succ (Nat.succ (Nat.succ (d)))))) a5 :: l
@[reducible] def i7 (d:Nat) (a0 a1 a2 a3 a4 a5 a6:PV) (l:List Item):List Item:=io (d) a0 :: io (Nat.succ (d)) a1 :: io (Nat.succ (Nat.succ (d))) a2 :: io (Nat.succ (Nat.succ (Nat.succ (d)))) a3 :: io (Nat.succ (Nat.succ (Nat.succ (Nat.succ (d))))) a4 :: io (Nat.succ (Nat.succ (Nat.succ (Nat.succ (Nat.succ (d)))))) a5 :: io (Nat.succ (Nat.succ (Nat.succ (Nat.succ (Nat.succ (Nat.succ (d))))))) a6 :: l
@[reducible] def i8 (d:Nat) (a0 a1 a2 a3 a4 a5 a6 a7:PV) (l:List Item):List Item:=io (d) a0 :: io (Nat.succ (d)) a1 :: io (Nat.succ (Nat.succ (d))) a2 :: io (Nat.succ (Nat.succ (Nat.succ (d)))) a3 :: io (Nat.succ (Nat.succ (Nat.succ (Nat.succ (d))))) a4 :: io (Nat.succ (Nat.succ (Nat.succ (Nat.succ (Nat.succ (d)))))) a5 :: io (Nat.succ (Nat.succ (Nat.succ (Nat.succ (Nat.succ (Nat.succ (d))))))) a6 :: io (Nat.succ (Nat.succ (Nat.succ (Nat.succ (Nat.succ (Nat.succ (Nat.succ (d)))))))) a7 :: l
@[reducible] def i9 (d:Nat) (a0 a1 a2 a3 a4 a5 a6 a7 a8:PV) (l:List Item):List Item:=io (d) a0 :: io (Nat.succ (d)) a1 :: io (Nat.succ (Nat.succ (d))) a2 :: io (Nat.succ (Nat.succ (Nat.succ (d)))) a3 :: io (Nat.succ (Nat.succ (Nat.succ (Nat.succ (d))))) a4 :: io (Nat.succ (Nat.succ (Nat.succ (Nat.succ (Nat.succ (d)))))) a5 :: io (Nat.succ (Nat.succ (Nat.succ (Nat.succ (Nat.succ (Nat.succ (d))))))) a6 :: io (Nat.succ (Nat.succ (Nat.succ (Nat.succ (Nat.succ (Nat.succ (Nat.succ (d)))))))) a7 :: io (Nat.succ (Nat.succ (Nat.succ (Nat.succ (Nat.succ (Nat.succ (Nat.succ (Nat.succ (d))))))))) a8 :: l
theorem wI2 {G G1 G':Prop}(h1:G1→G:=by exact wI)(h2:G'→G1:=by exact wI):G'→G:=fun k=>h1 (h2 k)
theorem wI4 {G G1 G':Prop}(h1:G1→G:=by exact wI2)(h2:G'→G1:=by exact wI2):G'→G:=fun k=>h1 (h2 k)
theorem wI8 {G G1 G':Prop}(h1:G1→G:=by exact wI4)(h2:G'→G1:=by exact wI4):G'→G:=fun k=>h1 (h2 k)
theorem zI2 {G G1 G':Prop}(h1:G1→G:=by exact zI)(h2:G'→G1:=by exact zI):G'→G:=fun k=>h1 (h2 k)
theorem zI4 {G G1 G':Prop}(h1:G1→G:=by exact zI2)(h2:G'→G1:=by exact zI2):G'→G:=fun k=>h1 (h2 k)
theorem zI8 {G G1 G':Prop}(h1:G1→G:=by exact zI4)(h2:G'→G1:=by exact zI4):G'→G:=fun k=>h1 (h2 k)
theorem y1 {G G1:Prop}(h1:G1→G:=by exact zI)(h0:G1:=by exact zN):G:=h1 h0
theorem w2 {G G':Prop}(k:G')(h1:G'→G:=by exact wI2):G:=h1 k
theorem z2 {G G':Prop}(k:G')(h1:G'→G:=by exact zI2):G:=h1 k
theorem y2 {G G1:Prop}(h1:G1→G:=by exact zI2)(h0:G1:=by exact zN):G:=h1 h0
theorem w3 {G G1 G':Prop}(k:G')(h1:G1→G:=by exact wI2)(h2:G'→G1:=by exact wI):G:=h1 (h2 k)
theorem z3 {G G1 G':Prop}(k:G')(h1:G1→G:=by exact zI2)(h2:G'→G1:=by exact zI):G:=h1 (h2 k)
theorem y3 {G G1 G2:Prop}(h1:G1→G:=by exact zI2)(h2:G2→G1:=by exact zI)(h0:G2:=by exact zN):G:=h1 (h2 h0)
theorem w4 {G G':Prop}(k:G')(h1:G'→G:=by exact wI4):G:=h1 k
theorem z4 {G G':Prop}(k:G')(h1:G'→G:=by exact zI4):G:=h1 k
theorem y4 {G G1:Prop}(h1:G1→G:=by exact zI4)(h0:G1:=by exact zN):G:=h1 h0
theorem w5 {G G1 G':Prop}(k:G')(h1:G1→G:=by exact wI4)(h2:G'→G1:=by exact wI):G:=h1 (h2 k)
theorem z5 {G G1 G':Prop}(k:G')(h1:G1→G:=by exact zI4)(h2:G'→G1:=by exact zI):G:=h1 (h2 k)
theorem y5 {G G1 G2:Prop}(h1:G1→G:=by exact zI4)(h2:G2→G1:=by exact zI)(h0:G2:=by exact zN):G:=h1 (h2 h0)
theorem w6 {G G1 G':Prop}(k:G')(h1:G1→G:=by exact wI4)(h2:G'→G1:=by exact wI2):G:=h1 (h2 k)
theorem z6 {G G1 G':Prop}(k:G')(h1:G1→G:=by exact zI4)(h2:G'→G1:=by exact zI2):G:=h1 (h2 k)
theorem w7 {G G1 G2 G':Prop}(k:G')(h1:G1→G:=by exact wI4)(h2:G2→G1:=by exact wI2)(h3:G'→G2:=by exact wI):G:=h1 (h2 (h3 k))
theorem z7 {G G1 G2 G':Prop}(k:G')(h1:G1→G:=by exact zI4)(h2:G2→G1:=by exact zI2)(h3:G'→G2:=by exact zI):G:=h1 (h2 (h3 k))
theorem y7 {G G1 G2 G3:Prop}(h1:G1→G:=by exact zI4)(h2:G2→G1:=by exact zI2)(h3:G3→G2:=by exact zI)(h0:G3:=by exact zN):G:=h1 (h2 (h3 h0))
theorem w8 {G G':Prop}(k:G')(h1:G'→G:=by exact wI8):G:=h1 k
theorem z8 {G G':Prop}(k:G')(h1:G'→G:=by exact zI8):G:=h1 k
theorem y8 {G G1:Prop}(h1:G1→G:=by exact zI8)(h0:G1:=by exact zN):G:=h1 h0
theorem w9 {G G1 G':Prop}(k:G')(h1:G1→G:=by exact wI8)(h2:G'→G1:=by exact wI):G:=h1 (h2 k)
theorem z9 {G G1 G':Prop}(k:G')(h1:G1→G:=by exact zI8)(h2:G'→G1:=by exact zI):G:=h1 (h2 k)
theorem y9 {G G1 G2:Prop}(h1:G1→G:=by exact zI8)(h2:G2→G1:=by exact zI)(h0:G2:=by exact zN):G:=h1 (h2 h0)
theorem w10 {G G1 G':Prop}(k:G')(h1:G1→G:=by exact wI8)(h2:G'→G1:=by exact wI2):G:=h1 (h2 k)
theorem z10 {G G1 G':Prop}(k:G')(h1:G1→G:=by exact zI8)(h2:G'→G1:=by exact zI2):G:=h1 (h2 k)
theorem y10 {G G1 G2:Prop}(h1:G1→G:=by exact zI8)(h2:G2→G1:=by exact zI2)(h0:G2:=by exact zN):G:=h1 (h2 h0)
theorem w11 {G G1 G2 G':Prop}(k:G')(h1:G1→G:=by exact wI8)(h2:G2→G1:=by exact wI2)(h3:G'→G2:=by exact wI):G:=h1 (h2 (h3 k))
theorem z11 {G G1 G2 G':Prop}(k:G')(h1:G1→G:=by exact zI8)(h2:G2→G1:=by exact zI2)(h3:G'→G2:=by exact zI):G:=h1 (h2 (h3 k))
theorem w12 {G G1 G':Prop}(k:G')(h1:G1→G:=by exact wI8)(h2:G'→G1:=by exact wI4):G:=h1 (h2 k)
theorem y12 {G G1 G2:Prop}(h1:G1→G:=by exact zI8)(h2:G2→G1:=by exact zI4)(h0:G2:=by exact zN):G:=h1 (h2 h0)
theorem w13 {G G1 G2 G':Prop}(k:G')(h1:G1→G:=by exact wI8)(h2:G2→G1:=by exact wI4)(h3:G'→G2:=by exact wI):G:=h1 (h2 (h3 k))
theorem y13 {G G1 G2 G3:Prop}(h1:G1→G:=by exact zI8)(h2:G2→G1:=by exact zI4)(h3:G3→G2:=by exact zI)(h0:G3:=by exact zN):G:=h1 (h2 (h3 h0))
theorem w14 {G G1 G2 G':Prop}(k:G')(h1:G1→G:=by exact wI8)(h2:G2→G1:=by exact wI4)(h3:G'→G2:=by exact wI2):G:=h1 (h2 (h3 k))
theorem z14 {G G1 G2 G':Prop}(k:G')(h1:G1→G:=by exact zI8)(h2:G2→G1:=by exact zI4)(h3:G'→G2:=by exact zI2):G:=h1 (h2 (h3 k))
theorem y14 {G G1 G2 G3:Prop}(h1:G1→G:=by exact zI8)(h2:G2→G1:=by exact zI4)(h3:G3→G2:=by exact zI2)(h0:G3:=by exact zN):G:=h1 (h2 (h3 h0))
theorem w15 {G G1 G2 G3 G':Prop}(k:G')(h1:G1→G:=by exact wI8)(h2:G2→G1:=by exact wI4)(h3:G3→G2:=by exact wI2)(h4:G'→G3:=by exact wI):G:=h1 (h2 (h3 (h4 k)))
theorem z15 {G G1 G2 G3 G':Prop}(k:G')(h1:G1→G:=by exact zI8)(h2:G2→G1:=by exact zI4)(h3:G3→G2:=by exact zI2)(h4:G'→G3:=by exact zI):G:=h1 (h2 (h3 (h4 k)))
theorem y15 {G G1 G2 G3 G4:Prop}(h1:G1→G:=by exact zI8)(h2:G2→G1:=by exact zI4)(h3:G3→G2:=by exact zI2)(h4:G4→G3:=by exact zI)(h0:G4:=by exact zN):G:=h1 (h2 (h3 (h4 h0)))
theorem w16 {G G1 G':Prop}(k:G')(h1:G1→G:=by exact wI8)(h2:G'→G1:=by exact wI8):G:=h1 (h2 k)
theorem z16 {G G1 G':Prop}(k:G')(h1:G1→G:=by exact zI8)(h2:G'→G1:=by exact zI8):G:=h1 (h2 k)
end Go.Proofs.YtgpdhgadmjfokaaGreat
namespace Go.Proofs.YtgpdhgadmjfokaaGreat
open Go.RowKit
section
variable {A:Amb}{P:Program}{s:St}{x y:Operand}{d:Nat}{T T' ty:TypeId}{pos:String}{af:Array Edge}{g:Option (Nat×Bool)}
theorem Qi6 (a:BinOp)(b:a= .and∨a= .or)(m n:Nat)(h:m < 9223372036854775808)(i:n < 9223372036854775808):bits a .i64 (m:Int) (n:Int)=((if a= .and then m &&& n else m ||| n:Nat):Int):=by
 have c:(BitVec.ofInt 64 (m:Int)).toNat=m:=by rw[BitVec.ofInt_natCast,BitVec.toNat_ofNat]; exact cC (by omega)
 have e:(BitVec.ofInt 64 (n:Int)).toNat=n:=by rw[BitVec.ofInt_natCast,BitVec.toNat_ofNat]; exact cC (by omega)
 rcases b with rfl | rfl
 ·have f:m &&& n < 2 ^ 63:=Nat.and_lt_two_pow _ (by omega)
  show IntKind.i64.wrap ((BitVec.ofInt 64 (m:Int) &&& BitVec.ofInt 64 (n:Int)).toNat:Int)=_
  rw[BitVec.toNat_and,c,e,IntWalk.i64_in _ (by omega)]
  rfl
 ·have f:m ||| n < 2 ^ 63:=Nat.or_lt_two_pow (by omega) (by omega)
  show IntKind.i64.wrap ((BitVec.ofInt 64 (m:Int) ||| BitVec.ofInt 64 (n:Int)).toNat:Int)=_
  rw[BitVec.toNat_or,c,e,IntWalk.i64_in _ (by omega)]
  rfl
theorem QdU {m n:Int}(f:Evl A s x (dI m))(h:Evl A s y (dI n))(o:Nat.blt d A.n=true)(h0:0≤m)(c:0≤n):Does A P ⟨some d, .binOp .and T x y T',ty,pos,af,g⟩ s (s.put d (lf (dI ((m.toNat &&& n.toNat:Nat):Int)))):=
 Qk rfl o fun e a w r=>by
  have j:=f.i r
  have k:=h.i r
  have q:=(LVR.int (f e a w r)).2
  have t:=(LVR.int (h e a w r)).2
  have b:=Qi6 .and (.inl rfl) m.toNat n.toNat (by omega) (by omega)
  rw[cE h0,cE c] at b
  have b:bits .and .i64 m n=((m.toNat &&& n.toNat:Nat):Int):=b
  have l:Op.intBits .and .i64 m n=pure (.int .i64 ((m.toNat &&& n.toNat:Nat):Int)):=by rw[← b]; rfl
  have p:m.toNat &&& n.toNat≤m.toNat:=Nat.and_le_left
  refine ⟨.int .i64 ((m.toNat &&& n.toNat:Nat):Int), ?_,_,rfl,Ye (by omega)⟩
  simp only[execOp,j,k,eqGuard_at_int,binOp,l]
  simp
theorem QtS {m n:Int}(f:Evl A s x (dI m))(h:Evl A s y (dI n))(o:Nat.blt d A.n=true)(h0:0≤m)(c:0≤n):Does A P ⟨some d, .binOp .or T x y T',ty,pos,af,g⟩ s (s.put d (lf (dI ((m.toNat ||| n.toNat:Nat):Int)))):=
 Qk rfl o fun e a w r=>by
  have j:=f.i r
  have k:=h.i r
  have q:=(LVR.int (f e a w r)).2
  have t:=(LVR.int (h e a w r)).2
  have b:=Qi6 .or (.inr rfl) m.toNat n.toNat (by omega) (by omega)
  rw[cE h0,cE c] at b
  have b:bits .or .i64 m n=((m.toNat ||| n.toNat:Nat):Int):=b
  have l:Op.intBits .or .i64 m n=pure (.int .i64 ((m.toNat ||| n.toNat:Nat):Int)):=by rw[← b]; rfl
  have p:m.toNat ||| n.toNat < 2 ^ 63:=Nat.or_lt_two_pow (by omega) (by omega)
  refine ⟨.int .i64 ((m.toNat ||| n.toNat:Nat):Int), ?_,_,rfl,Ye (by omega)⟩
  simp only[execOp,j,k,eqGuard_at_int,binOp,l]
  simp
theorem QjK {m n:Int}(h:Evl A s x (dI m))(j:Evl A s y (dI n))(f:Nat.blt d A.n=true)(h0:0≤n∧n≤62)(hb: -9223372036854775808≤m*2 ^ n.toNat∧m*2 ^ n.toNat≤9223372036854775807):Does A P ⟨some d, .binOp .shl T x y T',ty,pos,af,g⟩ s (s.put d (lf (dI (m*2 ^ n.toNat)))):=
 Qk rfl f fun k a w r=>by
  have b:=h.i r
  have c:=j.i r
  have e:Op.shift .shl .i64 m .i64 n=pure (.int .i64 (m*2 ^ n.toNat)):=by
   rw[shift_shl_any _ _ _ _ h0.1,show IntKind.i64.bits=64 from rfl,cH (by omega),IntWalk.i64_in _ (by omega)]
  refine ⟨.int .i64 (m*2 ^ n.toNat), ?_,_,rfl,Ye hb⟩
  simp only[execOp,b,c,eqGuard_at_int,binOp,e]
  simp
theorem Qek {m n:Int}(c:Evl A s x (dI m))(l:Evl A s y (dI n))(k:Nat.blt d A.n=true)(h0:0≤n∧n≤62)(b:0≤m):Does A P ⟨some d, .binOp .shr T x y T',ty,pos,af,g⟩ s (s.put d (lf (dI (m / 2 ^ n.toNat)))):=
 Qk rfl k fun e a w r=>by
  have f:=c.i r
  have h:=l.i r
  have q:=(LVR.int (c e a w r)).2
  have j:Op.shift .shr .i64 m .i64 n=pure (.int .i64 (m / 2 ^ n.toNat)):=by
   rw[shift_shr_any _ _ _ _ h0.1,show IntKind.i64.bits=64 from rfl,cH (by omega)]
  have o:0≤m / 2 ^ n.toNat:=cI b (cF (by decide))
  have p:m / 2 ^ n.toNat≤m:=Int.ediv_le_self _ b
  refine ⟨.int .i64 (m / 2 ^ n.toNat), ?_,_,rfl,Ye (by omega)⟩
  simp only[execOp,f,h,eqGuard_at_int,binOp,j]
  simp
end
end Go.Proofs.YtgpdhgadmjfokaaGreat
namespace Go.Proofs.YtgpdhgadmjfokaaGreat
open Go.RowKit
theorem Qw1:EqT Tryz.prog 2 44 true (.pr .str .int):=EqT.struct Tryz.underlying44 (by kernel_rfl) (EqFs.cons (by decide) rfl U1 (fun _=>rfl) (EqT.str Zf) (EqFs.one (by decide) rfl Yw (fun _=>rfl) (EqT.int Uu)))
theorem Qwl:(Tryz.prog.eqGuardType Tryz.prog.depth 44=false)∧2≤10000:=⟨by kernel_rfl,by decide⟩
theorem QwF:EqT Tryz.prog 2 46 true (.pr .int (.pr .int (.pr .bool .int))):=EqT.struct Tryz.underlying46 (by kernel_rfl) (EqFs.cons (by decide) rfl Yw (fun _=>rfl) (EqT.int Uu) (EqFs.cons (by decide) rfl Yw (fun _=>rfl) (EqT.int Uu) (EqFs.cons (by decide) rfl HR (fun _=>rfl) (EqT.bool Jr) (EqFs.one (by decide) rfl Yw (fun _=>rfl) (EqT.int Uu)))))
theorem Qxh:(Tryz.prog.eqGuardType Tryz.prog.depth 46=false)∧2≤10000:=⟨by kernel_rfl,by decide⟩
theorem K7:EqT Tryz.prog 2 86 true (.pr .int .bool):=EqT.struct Tryz.underlying86 (by kernel_rfl) (EqFs.cons (by decide) rfl Yw (fun _=>rfl) (EqT.int Uu) (EqFs.one (by decide) rfl HR (fun _=>rfl) (EqT.bool Jr)))
theorem Qar:(Tryz.prog.eqGuardType Tryz.prog.depth 86=false)∧2≤10000:=⟨by kernel_rfl,by decide⟩
theorem Qu8:EqT Tryz.prog 3 141 true (.pr (.pr .int .bool) (.pr .int .bool)):=EqT.struct Tryz.underlying141 (by kernel_rfl) (EqFs.cons (by decide) rfl Qs7 (fun h=>by cases h) (K7) (EqFs.one (by decide) rfl Qs7 (fun h=>by cases h) (K7)))
theorem QtO:(Tryz.prog.eqGuardType Tryz.prog.depth 141=false)∧3≤10000:=⟨by kernel_rfl,by decide⟩
theorem Qnp:KeyL Tryz.prog 9 false .str:=KeyL.str Zf
theorem QyX:ZeroV Tryz.prog 3 false .int:=⟨_,Yj,rfl⟩
end Go.Proofs.YtgpdhgadmjfokaaGreat
namespace Go.Proofs.YtgpdhgadmjfokaaGreat
open Go.RowKit
def Vz (xs:List Int):List Int:=xs.mergeSort fun x y=>decide (x≤y)
theorem Qaj (xs:List Int):(Vz xs).Perm xs:=List.mergeSort_perm ..
theorem QcJ (xs:List Int):(Vz xs).length=xs.length:=(Qaj xs).length_eq
theorem Qb1 {xs:List Int}{x:Int}:x∈Vz xs↔x∈xs:=(Qaj xs).mem_iff
theorem Qa3 (xs:List Int):(Vz xs).Pairwise fun x y=>x≤y:=by
 have h:=List.pairwise_mergeSort (le:=fun x y:Int=>decide (x≤y)) (fun a b c d e=>by simp only[aU] at*; omega) (fun a b=>by simp only[bP,aU]; omega) xs
 exact h.imp fun h=>by simpa using h
theorem Qcd {w:World}:∀{xs:List Int} {fp:List Nat} {cs:List Value},OwnL (Own .int w) fp cs xs→fp=[]∧cs=xs.map (Value.int .i64)∧∀x∈xs, -9223372036854775808≤x∧x≤9223372036854775807
 | [],fp,cs,h=>⟨h.1,h.2,fun x e=>by cases e⟩
 | x :: xs,fp,cs,h=>by
  obtain ⟨f,g,l,r,rfl,rfl,⟨rfl,rfl,b⟩,c⟩:=h
  obtain ⟨rfl,rfl,d⟩:=Qcd c
  exact ⟨rfl,rfl,fun y a=>by rcases aD.1 a with rfl | a; exact b; exact d y a⟩
theorem QiE {w:World}:∀{xs:List Int},(∀x∈xs, -9223372036854775808≤x∧x≤9223372036854775807)→OwnL (Own .int w) [] (xs.map (Value.int .i64)) xs
 | [],_=>⟨rfl,rfl⟩
 | x :: xs,h=>⟨[],[],[.int .i64 x],xs.map (Value.int .i64),rfl,rfl,⟨rfl,rfl,h x (ax ..)⟩,QiE fun y a=>h y (aw _ a)⟩
def Qto (P:Program)(f:FuncId):Prop:=∀(blk cap:Nat) (zs:List Int) (w:World),Sort.Holds (Value.int .i64) w blk 0 zs.toArray→blk < w.heap.size→zs.length < 4611686018427387904→
 Calls P f #[.slice (some ⟨blk,0,none⟩) zs.length cap] w fun e w'=>e= .returned (.tuple #[])∧∃n os,w'=Sort.grow (Sort.putRow (Value.int .i64) (Sort.ahead w n) blk 0 (Vz zs).toArray) os
def QbF (P:Program)(f:FuncId):Prop:=∀w:World,Calls P f #[.slice none 0 0] w fun e w'=>e= .returned (.tuple #[])∧Nw w w'
theorem QrY {P:Program}{f:FuncId}{E:TypeId}(Q:Qto P f)(N:QbF P f)(xs:List Int)(hl:xs.length≤1000000000):FC P f [(false,[.ref 0])] [(0,some (.arr E .int xs))] 1 (Is (.tup []) [(0,some (.arr E .int (Vz xs)))]):=fun A w vs u R=>by
 obtain ⟨v,Z,rfl,⟨l,D,B⟩,rfl⟩:=R
 simp only[aJ,and_true] at D
 subst D
 have U:v=A.h 0:=B ⟨_,rfl⟩
 subst U
 have O:Own (.sl E .int) w (A.f 0) [A.h 0] xs:=u.en 0 _ rfl
 have a:∀(y:List Int) q,Tab.al [(0,some (Ent.arr E .int y))] q→q=0:=fun y q ⟨e,b⟩=>by
  rw[Qf] at b
  split at b
  ·assumption
  ·cases b
 rcases O with ⟨p,o,I⟩ | ⟨g,k,t,fps,p,o,H,hn,j,G,K⟩
 ·simp only[aJ,and_true] at o
  subst I
  rw[o]
  refine Calls.mono (N w) fun e w' b=> ?_
  obtain ⟨rfl,C⟩:=b
  refine ⟨_,_,_,A,rfl,⟨rfl,rfl⟩,⟨fun q e b=> ?_,fun q J d s r=>absurd ((a _ q d).trans (a _ J s).symm) r,fun q d=> ?_,fun q d g i=> ?_,fun g i=>bz (u.nl g i) C.size⟩,⟨[],rfl,rfl⟩,
   ⟨C.grw,fun g i _=>Below.block C g i,fun g i=> .inl i,fun q d g i=> ?_⟩,fun q _ _=>rfl⟩
  ·rw[Qf] at b
   split at b
   ·rename_i z; subst z; cases b
    exact .inl ⟨p,by rw[o],by simp[Vz]⟩
   ·cases b
  ·rw[a _ q d,p]; exact bI
  ·rw[a _ q d,p] at i; cases i
  ·rw[a _ q d,p] at i; cases i
 ·simp only[aJ,and_true] at o
  rw[cN] at K
  obtain ⟨rfl,T,S⟩:=Qcd K
  have i:g < w.heap.size:=(bG.1 H).1
  rw[o]
  have hm:xs.length≤9223372036854775807:=by unfold maxLen at j; omega
  refine Calls.mono (Q g k xs w (holds_of_blockI H T) i (by omega)) fun e w' b=> ?_
  obtain ⟨rfl,n,M,rfl⟩:=b
  obtain ⟨V,W,X,L,Y⟩:=grownBy_sortedI (w:=w) (g:=g) (n:=n) (os:=M) (Vz xs).toArray
  have F:=QcJ xs
  refine ⟨_,_,_,A,rfl,⟨rfl,rfl⟩,⟨fun q e b=> ?_,fun q J d s r=>absurd ((a _ q d).trans (a _ J s).symm) r,fun q d=> ?_,fun q d m c=> ?_,fun m c=>bz (u.nl m c) L⟩,⟨[],rfl,rfl⟩,
   ⟨⟨V,W,X,L⟩,fun m B C=> ?_,fun m B=> .inl B,fun q d m c=> ?_⟩,fun q _ _=>rfl⟩
  ·rw[Qf] at b
   split at b
   ·rename_i z; subst z; cases b
    refine .inr ⟨g,k,_,[],p,by rw[o,F],heap_sortedI _ H,by omega,j,by simpa [Sort.putCells] using G, ?_⟩
    show OwnL (Own .int _) [] (List.take ((Vz xs).length*1) _) (Vz xs)
    rw[cN,take_putCellsI t (Vz xs) (by have:t.size=k*1:=G; omega)]
    exact QiE fun x I=>S x (Qb1.1 I)
   ·cases b
  ·rw[a _ q d]; exact u.nd 0 ⟨_,rfl⟩
  ·rw[a _ q d] at c; exact u.no 0 ⟨_,rfl⟩ m c
  ·exact Y m B fun z=>C 0 ⟨_,rfl⟩ (by rw[p]; cases z; exact ax ..)
  ·rw[a _ q d] at c; exact .inr ⟨0,⟨_,rfl⟩,c⟩
end Go.Proofs.YtgpdhgadmjfokaaGreat
