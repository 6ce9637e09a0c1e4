/- Steps of a walk that are found by themselves: tables of the types, one operation, one step of the control. -/
import Derived.Test.YtndabgcpnmeeoaaGreatOAf
import Derived.Test.YtndabgcpnmeeoaaGreatOAl
import Derived.Test.YtndabgcpnmeeoaaGreatOAu
import Derived.Laws.Shifts
import Derived.Laws.BitsAllLaws
import Derived.Test.YtndabgcpnmeeoaaGreatOAk
import Derived.Sort.EveryDepth
import Derived.Sort.OwnSortedInts
import Derived.Shelf.Sort.AssemblyIn
set_option linter.unusedSimpArgs false
set_option linter.unusedVariables false
set_option linter.unusedSectionVars false
namespace Go.Proofs.YtndabgcpnmeeoaaGreat
open Go.RowKit
set_option maxRecDepth 100000
theorem Qh9 {α:Type _}:∀{l:List (Nat×α)} {i:Nat} {x:α},lk l i=some x→(i,x)∈l
 | (j,y) :: l,i,x,h=>by
  rw[WB] at h
  split at h
  ·rename_i e; cases h; subst e; exact aw ..
  ·exact ax _ (Qh9 h)
noncomputable def tshT:List (Nat×Bool×Nat):=[(0,false,1),(2,false,1),(3,false,1),(4,false,1),(5,false,1),(6,false,1),(8,true,4),(9,false,1),(10,false,1),(11,false,1),(12,false,1),(14,true,2),(15,false,1),(16,false,1),(17,false,1),(19,true,1),(20,false,1),(22,false,1),(24,false,1),(25,false,1),(26,false,1),(28,true,3),(30,false,1),(31,false,1),(34,false,1),(36,false,1),(38,false,1),(40,false,1),(44,false,1),(46,false,1),(48,true,2),(49,false,1),(51,true,5),(53,false,1),(54,false,1),(56,false,1),(57,false,1),(60,true,3),(61,false,1),(63,false,1),(65,false,1),(68,false,1),(75,true,2),(77,true,2),(78,false,1),(80,true,2),(81,false,1),(82,false,1),(84,true,5),(86,false,1),(93,false,1),(95,true,2),(96,false,1),(99,false,1),(103,false,1),(107,false,1),(109,true,2),(110,false,1),(112,false,1),(113,false,1),(115,true,3),(116,false,1),(120,true,2),(121,false,1),(123,false,1),(124,false,1),(126,false,1),(129,true,3),(131,false,1),(132,false,1),(134,true,3),(139,true,3),(144,false,1),(154,true,4),(155,false,1),(157,false,1),(163,false,1),(168,false,1),(172,false,1),(176,false,1),(178,true,2),(179,false,1),(187,false,1),(191,false,1),(195,false,1),(201,false,1),(202,false,1),(215,true,4),(217,false,1),(220,true,2),(221,false,1),(227,false,1),(234,true,6),(235,false,1),(241,false,1),(244,false,1),(250,false,1),(257,false,1),(271,false,1),(275,true,2),(279,false,1),(281,true,6),(288,false,1),(290,false,1),(292,false,1),(301,true,3),(303,true,3),(304,false,1),(311,true,2),(314,true,4),(315,false,1),(317,false,1),(323,true,2),(325,true,7),(326,false,1),(333,false,1),(335,false,1),(337,true,3),(340,false,1),(344,false,1),(348,false,1),(350,false,1),(357,false,1),(359,true,2),(361,false,1),(363,true,4),(365,true,2),(371,false,1),(373,true,7),(378,false,1),(382,true,3),(383,false,1),(385,true,2),(387,false,1),(388,false,1),(392,false,1),(394,false,1),(399,false,1),(400,false,1),(406,false,1),(420,false,1),(421,false,1),(424,true,2),(430,false,1),(435,false,1),(436,false,1),(446,false,1),(454,false,1),(455,false,1),(459,false,1),(461,false,1),(464,false,1),(465,false,1),(469,false,1),(471,false,1),(474,false,1),(482,false,1),(489,false,1),(497,false,1),(499,true,4),(502,false,1),(504,false,1),(507,false,1),(510,false,1),(513,false,1),(514,false,1),(528,false,1),(530,true,8),(536,false,1),(538,true,2),(548,false,1),(549,false,1),(550,false,1),(552,true,9),(555,true,2),(567,false,1)]
noncomputable def fldT:List (Nat×Nat):=[(512,0),(513,1),(514,2),(515,3),(896,0),(897,1),(1216,0),(1792,0),(1793,1),(1794,2),(3072,0),(3073,1),(3264,0),(3265,2),(3266,3),(3267,4),(3840,0),(3841,1),(3842,2),(4800,0),(4801,1),(4928,0),(4929,1),(5120,0),(5121,1),(5376,0),(5377,2),(5378,3),(5379,4),(6080,0),(6081,1),(6976,0),(6977,1),(7360,0),(7361,1),(7362,2),(7680,0),(7681,1),(8256,0),(8257,1),(8258,2),(8576,0),(8577,1),(8578,2),(8896,0),(8897,1),(8898,2),(9856,0),(9857,1),(9858,2),(9859,3),(11392,0),(11393,1),(13760,0),(13761,1),(13762,2),(13763,3),(14080,0),(14081,1),(14976,0),(14977,3),(14978,5),(17600,0),(17601,1),(17984,0),(17985,2),(17986,3),(17987,4),(17988,5),(19264,0),(19265,1),(19266,2),(19392,0),(19393,1),(19394,2),(19904,0),(19905,1),(20096,0),(20097,2),(20672,0),(20673,1),(20800,0),(20801,4),(21568,0),(21569,1),(21570,2),(22976,0),(22977,1),(23232,0),(23233,1),(23234,2),(23235,3),(23360,0),(23361,1),(23872,0),(23873,5),(23874,6),(24448,0),(24449,1),(24450,2),(24640,0),(24641,1),(27136,0),(27137,1),(31936,0),(31937,1),(31938,2),(31939,3),(33920,0),(33921,3),(33922,4),(33923,5),(34432,0),(35328,0),(35329,3),(35330,4),(35331,7),(35332,8),(35520,0),(35521,1)]
noncomputable def sliT:List (Nat×Nat):=[(22,5),(24,77),(25,9),(26,154),(30,139),(46,275),(49,75),(53,60),(56,123),(78,424),(81,311),(82,323),(93,215),(99,95),(107,363),(112,120),(113,129),(123,3),(144,4),(176,301),(201,314),(257,382),(304,303),(344,359),(361,365),(436,325),(507,25),(550,555)]
theorem QwZ:(tshT.all fun p=>decide (tsh Tryz.prog p.1=some p.2))=true:=by kernel_rfl
theorem Qv4:(fldT.all fun p=>decide (fld Tryz.prog (p.1 / 64) (p.1 % 64)=some p.2))=true:=by kernel_rfl
noncomputable def strT:List Nat:=[9,10,11]
noncomputable def strB (T:Nat):Bool:=match Tryz.prog.underlying T with
 | some .string=>true
 | _=>false
theorem QwS:(strT.all strB)=true:=by kernel_rfl
theorem Qyl {T:TypeId}(h:inB T strT=true):Tryz.prog.underlying T=some .string:=by
 have a:=av.1 QwS _ (Qh0.1 h)
 unfold strB at a
 split at a
 ·assumption
 ·cases a
noncomputable def sliB (T E:Nat):Bool:=match Tryz.prog.underlying T with
 | some (.slice E')=>Nat.beq E' E
 | _=>false
theorem QwK:(sliT.all fun p=>sliB p.1 p.2)=true:=by kernel_rfl
theorem KE {T:TypeId}{b:Bool}{n:Nat}(h:lk tshT T=some (b,n)):tsh Tryz.prog T=some (b,n):=ab (av.1 QwZ _ (Qh9 h))
theorem Qpp {T f o:Nat}(h:lk fldT (Nat.add (Nat.mul 64 T) f)=some o)(a:Nat.blt f 64=true):fld Tryz.prog T f=some o:=by
 have b:=ab (av.1 Qv4 _ (Qh9 h))
 have a:=aA a
 rwa [show Nat.add (Nat.mul 64 T) f=64*T+f from rfl,show (64*T+f) / 64=T by omega,show (64*T+f) % 64=f by omega] at b
theorem Qiy {T E:TypeId}(h:lk sliT T=some E):Tryz.prog.underlying T=some (.slice E):=by
 have a:=av.1 QwK _ (Qh9 h)
 unfold sliB at a
 split at a
 ·rename_i b; rw[b,bg a]
 ·cases a
section
variable {A:Amb}{s s':St}{o:Oper}
theorem xlI {d:Nat}{x:Operand}{T ty:TypeId}{pos:String}{af:Array Edge}{g:Option (Nat×Bool)}{q a i j n:Nat}{E:TypeId}{e t:Ty}{xs:List e.Den}{z:e.Den}{b:t.Den}(B:Evl A s x (.ept q a i j))(m:s.tab.ent q=some (.arr E e xs))(w:a=e.wd)(C:xs[i]? =some z)(r:e.flat=true)(h:tsh Tryz.prog T=some (false,n))(u:(leaves e z)[j]? =some (.dat t b))(v:Nat.blt d A.n=true):Does A Tryz.prog ⟨some d, .load T x,ty,pos,af,g⟩ s (s.put d (lf (.dat t b))):=by
 subst w; exact Zi B m C r h u v
theorem Qzt {d:Nat}{x:Operand}{T ty:TypeId}{pos:String}{af:Array Edge}{g:Option (Nat×Bool)}{q a i j n:Nat}{E:TypeId}{e:Ty}{xs:List e.Den}{z:e.Den}(v:Evl A s x (.ept q a i j))(h:s.tab.ent q=some (.arr E e xs))(u:a=e.wd)(w:xs[i]? =some z)(m:e.flat=true)(b:tsh Tryz.prog T=some (true,n))(r:Nat.ble (j+n) e.wd=true)(t:Nat.blt d A.n=true):Does A Tryz.prog ⟨some d, .load T x,ty,pos,af,g⟩ s (s.put d (ag (((leaves e z).drop j).take n))):=by
 subst u; exact Qi4 v h w m b r t
theorem D_ (h:Does A Tryz.prog o s s':=by
 first
 | ((with_reducible apply Qak); exact Qa rfl; rfl; exact KE rfl; rfl; rfl)
 | ((with_reducible apply JC); exact Qa rfl; exact Qpp rfl rfl; rfl; rfl)
 | ((with_reducible apply Hk); rfl; rfl)
 | ((with_reducible apply UA); rfl; rfl)
 | ((with_reducible apply QaY); rfl; rfl; rfl)
 | ((with_reducible apply JD); exact Qa rfl; rfl; exact KE rfl; rfl; rfl)
 | ((with_reducible apply Qeb); (first | exact Qr rfl | exact Zt | exact Evl.str rfl | exact Evl.val); rfl)
 | ((with_reducible apply Wn); (first | exact Qr rfl | exact Zt | exact Evl.str rfl | exact Evl.val); rfl)
 | ((with_reducible apply QaZ); (first | exact Qa rfl | exact Qr rfl); (first | exact Qa rfl | exact Qr rfl); rfl)
 | ((with_reducible apply Xh); (first | exact Qa rfl | exact Qr rfl); (first | exact Qa rfl | exact Qr rfl); rfl)
 | ((with_reducible apply Qi5); (first | exact Qa rfl | exact Qr rfl); (first | exact Qa rfl | exact Qr rfl); rfl)
 | ((with_reducible apply Qi3); (first | exact Qa rfl | exact Qr rfl); (first | exact Qa rfl | exact Qr rfl); rfl)
 | ((with_reducible apply Qi1); (first | exact Qa rfl | exact Qr rfl); (first | exact Qa rfl | exact Qr rfl); rfl)
 | ((with_reducible apply Qi0); (first | exact Qa rfl | exact Qr rfl); (first | exact Qa rfl | exact Qr rfl); rfl)
 | ((with_reducible apply Wm); (first | exact Qa rfl | exact Qr rfl); (first | exact Qa rfl | exact Qr rfl); rfl; omega)
 | ((with_reducible apply V8); (first | exact Qa rfl | exact Qr rfl); (first | exact Qa rfl | exact Qr rfl); rfl; omega)
 | ((with_reducible apply Qi6); exact Qa rfl; rfl)
 | ((with_reducible apply Qec); exact Qa rfl; (first | exact Ql rfl | exact Evl.ev Zt | exact Evl.ev (Qr rfl)); rfl)
 | ((with_reducible apply Qed); exact Qa rfl; (first | exact Ql rfl | exact Evl.ev Zt | exact Evl.ev (Qr rfl)); rfl)
 | ((with_reducible apply Qea); exact Qa rfl; exact KE rfl; rfl; rfl)
 | ((with_reducible apply QcV); exact Qa rfl; exact KE rfl; rfl; rfl)
 | ((with_reducible apply QcR); exact Qa rfl; exact Qpp rfl rfl; rfl)
 | ((with_reducible apply QT); exact Qa rfl; exact Qpp rfl rfl; rfl; rfl)
 | ((with_reducible apply QbW); exact Qa rfl; rfl; rfl)
 | ((with_reducible apply X7); exact Qa rfl; rfl; rfl)
 | ((with_reducible apply Qgs); exact Qa rfl; rfl; rfl; exact Qiy rfl)
 | ((with_reducible apply Does.len); exact Qa rfl; rfl; exact Qiy rfl)
 | ((with_reducible apply VT); (first | exact Qa rfl | exact Evl.str rfl); (first | exact Qa rfl | exact Evl.str rfl); rfl)
 | ((with_reducible apply Qgu); (first | exact Qa rfl | exact Evl.str rfl); (first | exact Qa rfl | exact Evl.str rfl); rfl)
 | ((with_reducible apply Q6); exact Qa rfl; rfl; (first | exact Ql rfl | exact Evl.ev (Qr rfl) | exact Evl.ev Zt | exact Evl.ev (Evl.str rfl) | exact Evl.ev (Q0 _ rfl)); rfl; exact KE rfl; rfl)
 | ((with_reducible apply QcS); exact Qa rfl; (first | exact Qa rfl | exact Qr rfl); exact Qiy rfl; exact KE rfl; rfl; omega; assumption)
 | ((with_reducible apply QcT); (first | exact Qa rfl | exact Evl.str rfl); (first | exact Qa rfl | exact Qr rfl); rfl; exact Qyl rfl; omega; assumption)
 | ((with_reducible apply QU); exact Qa rfl; rfl; (first | exact Qa rfl | exact Qr rfl); exact Qiy rfl; exact KE rfl; rfl; omega; (first | omega | (simp only[au]; omega)))
 | ((with_reducible apply xlI); exact Qa rfl; rfl; rfl; assumption; rfl; exact KE rfl; rfl; rfl)
 | ((with_reducible apply Qzt); exact Qa rfl; rfl; rfl; assumption; rfl; exact KE rfl; rfl; rfl)
 | ((with_reducible apply Zm); exact Qa rfl; exact Qa rfl; rfl)
 | ((with_reducible apply Zy); exact Qa rfl; exact Qa rfl; rfl)):Does A Tryz.prog o s s':=h
theorem xbx {T ty:TypeId}{d:Nat}{x:Operand}{pos:String}{af:Array Edge}{ops:Array Oper}{l:List Oper}{Q:Exit→St→Prop}(t:Nat){b:Bool}{ls:List LV}(k:AL A Tryz.prog ops l Q (s.new d t (.ptr t 0) (.box T ls)))(m:Ev A s x (b,ls):=by first | exact Ql rfl | exact Evl.ev (Qr rfl) | exact Evl.ev Zt | exact Evl.ev (Evl.str rfl))(h:QW s.tab ls=true:=by rfl)(j:Nat.blt d A.n=true:=by rfl)(a:Fresh s t:=by exact Fresh.of rfl)(e:A.k0≤t:=by exact nlr rfl):AL A Tryz.prog ops (⟨some d, .box T x,ty,pos,af,none⟩ :: l) Q s:=lc (Qqq t m h j a e) k
theorem xal {T ty:TypeId}{d:Nat}{pos:String}{af:Array Edge}{g:Option (Nat×Bool)}(k:Nat)(t:Ty){z:Value}(j:zer Tryz.prog T=some z)(e:z.cells.toList=t.zeros:=by rfl)(h:Nat.blt d A.n=true:=by rfl)(a:Fresh s k:=by exact Fresh.of rfl)(b:A.k0≤k:=by exact nlr rfl):Does A Tryz.prog ⟨some d, .alloc T,ty,pos,af,g⟩ s (s.new d k (.ptr k 0) (.box T t.zlv)):=YP k t j e h a b
theorem e1_ {i:Nat}{b:Bool}{ls:List LV}(h:lk s.tm i=some (.cm b ls):=by rfl):EvL A s [.tmp i] [(b,ls)]:=⟨_,_,rfl,Ql h,rfl⟩
theorem e2_ {i j:Nat}{b c:Bool}{ls ms:List LV}(h:lk s.tm i=some (.cm b ls):=by rfl)(k:lk s.tm j=some (.cm c ms):=by rfl):EvL A s [.tmp i, .tmp j] [(b,ls),(c,ms)]:=⟨_,_,rfl,Ql h,_,_,rfl,Ql k,rfl⟩
theorem QxS {P:Program}{c:Code}{Q:Exit→St→Prop}(h:AC A P c Q s):AC A P c Q s:=h
theorem wI {G G':Prop}(h:G'→G:=by
 first
 | ((with_reducible apply lm); rfl; rfl)
 | ((with_reducible apply lgn); rfl; rfl; rfl)
 | ((with_reducible apply lc); exact D_)
 | ((with_reducible apply lgy); rfl; rfl; exact D_)
 | (with_reducible exact Qtm)
 | (with_reducible exact Qxc)
 | (with_reducible exact Yg)
 | ((with_reducible apply Qqj); exact Qa rfl)
 | ((with_reducible apply Qqi); exact Qa rfl)
 | (with_reducible exact Qql)
 | (with_reducible exact Qqh)
 | (with_reducible exact Qgo)
 | (with_reducible exact AC.skip)
 | (with_reducible exact QhB)
 | (with_reducible exact Qe)
 | exact QxS):G'→G:=h
theorem w_ {G G':Prop}(k:G')(h:G'→G:=by exact wI):G:=h k
end
def rlm:Nat→List Nat→List Nat
 | _,[]=>[]
 | b,r :: rs=>Nat.sub (Nat.sub b 1) r :: rlm (Nat.mul 2 b) rs
def QkX (l:List Oper)(plan:List Item)(deps:List (List Nat)):Bool:=Nat.beq l.length plan.length&&(Qeu l.toArray deps plan.length&&QfH plan deps&&Qby l.toArray plan.length)
def ActsH (A:Amb)(P:Program)(l0:List Oper)(plan:List Item)(deps:List (List Nat))(s0:St):List Oper→List Item→Nat→Prop
 | o :: l,it :: p,i=>(∀s,At plan deps s0 i s→Acts A P l0.toArray o s (Qa4 s it))∧ActsH A P l0 plan deps s0 l p (i+1)
 | [],_,_=>QkX l0 plan deps=true
 | _ :: _,[],_=>QkX l0 plan deps=true
section
variable {A:Amb}{P:Program}{s s' s0:St}{Q:Exit→St→Prop}{l0 l:List Oper}{o:Oper}{it:Item}{p plan:List Item}{deps:List (List Nat)}{i:Nat}
theorem ActsH.to:∀{l:List Oper} {p:List Item} {i:Nat},ActsH A P l0 plan deps s0 l p i→ActsL A P l0.toArray plan deps s0 l p i∧QkX l0 plan deps=true
 | _ :: _,_ :: _,_,h=>⟨⟨h.1,(ActsH.to h.2).1⟩,(ActsH.to h.2).2⟩
 | [],_,_,h=>⟨trivial,h⟩
 | _ :: _,[],_,h=>⟨trivial,h⟩
theorem Qxo {q:Nat}(a:At plan deps s0 i s)(h:(se plan deps s0 i q).isSome=true):(s.tab.ent q).isSome=true:=by
 obtain ⟨x,b⟩:=br.1 h
 rw[a.n _ b]; rfl
theorem DH_ (h:Does A Tryz.prog o s s':=by
 first
 | ((with_reducible apply Qec); exact At.v ‹_› rfl; (first | exact At.w ‹_› rfl | exact Evl.ev Zt | exact Evl.ev (Qr rfl)); rfl)
 | ((with_reducible apply Qed); exact At.v ‹_› rfl; (first | exact At.w ‹_› rfl | exact Evl.ev Zt | exact Evl.ev (Qr rfl)); rfl)
 | ((with_reducible apply Qak); exact At.v ‹_› rfl; exact At.n ‹_› _ rfl; exact KE rfl; rfl; rfl)
 | ((with_reducible apply JD); exact At.v ‹_› rfl; exact At.n ‹_› _ rfl; exact KE rfl; rfl; rfl)
 | ((with_reducible apply Hk); exact At.k ‹_› rfl; rfl)
 | ((with_reducible apply UA); exact At.k ‹_› rfl; rfl)
 | ((with_reducible apply QaY); exact At.k ‹_› rfl; rfl; rfl)
 | ((with_reducible apply Qeb); (first | exact Qr rfl | exact Zt | exact Evl.str rfl | exact Evl.val); rfl)
 | ((with_reducible apply Wn); (first | exact Qr rfl | exact Zt | exact Evl.str rfl | exact Evl.val); rfl)
 | ((with_reducible apply Qea); exact At.v ‹_› rfl; exact KE rfl; rfl; rfl)
 | ((with_reducible apply QcV); exact At.v ‹_› rfl; exact KE rfl; rfl; rfl)
 | ((with_reducible apply QcR); exact At.v ‹_› rfl; exact Qpp rfl rfl; rfl)
 | ((with_reducible apply Does.len); exact At.v ‹_› rfl; rfl; exact Qiy rfl)
 | ((with_reducible apply Qgs); exact At.v ‹_› rfl; exact At.n ‹_› _ rfl; rfl; exact Qiy rfl)
 | ((with_reducible apply QaZ); (first | exact At.v ‹_› rfl | exact Qr rfl); (first | exact At.v ‹_› rfl | exact Qr rfl); rfl)
 | ((with_reducible apply Xh); (first | exact At.v ‹_› rfl | exact Qr rfl); (first | exact At.v ‹_› rfl | exact Qr rfl); rfl)
 | ((with_reducible apply Qi5); (first | exact At.v ‹_› rfl | exact Qr rfl); (first | exact At.v ‹_› rfl | exact Qr rfl); rfl)
 | ((with_reducible apply Qi3); (first | exact At.v ‹_› rfl | exact Qr rfl); (first | exact At.v ‹_› rfl | exact Qr rfl); rfl)
 | ((with_reducible apply Qi1); (first | exact At.v ‹_› rfl | exact Qr rfl); (first | exact At.v ‹_› rfl | exact Qr rfl); rfl)
 | ((with_reducible apply Qi0); (first | exact At.v ‹_› rfl | exact Qr rfl); (first | exact At.v ‹_› rfl | exact Qr rfl); rfl)
 | ((with_reducible apply Wm); (first | exact At.v ‹_› rfl | exact Qr rfl); (first | exact At.v ‹_› rfl | exact Qr rfl); rfl; omega)
 | ((with_reducible apply V8); (first | exact At.v ‹_› rfl | exact Qr rfl); (first | exact At.v ‹_› rfl | exact Qr rfl); rfl; omega)
 | ((with_reducible apply Qi6); exact At.v ‹_› rfl; rfl)
 | ((with_reducible apply VT); (first | exact At.v ‹_› rfl | exact Evl.str rfl); (first | exact At.v ‹_› rfl | exact Evl.str rfl); rfl)
 | ((with_reducible apply Qgu); (first | exact At.v ‹_› rfl | exact Evl.str rfl); (first | exact At.v ‹_› rfl | exact Evl.str rfl); rfl)
 | ((with_reducible apply Zm); exact At.v ‹_› rfl; exact At.v ‹_› rfl; rfl)
 | ((with_reducible apply Zy); exact At.v ‹_› rfl; exact At.v ‹_› rfl; rfl)
 | ((with_reducible apply JC); exact At.v ‹_› rfl; exact Qpp rfl rfl; exact Qxo ‹_› rfl; rfl)
 | ((with_reducible apply QbW); exact At.v ‹_› rfl; exact Qxo ‹_› rfl; rfl)
 | ((with_reducible apply QcT); (first | exact At.v ‹_› rfl | exact Evl.str rfl); (first | exact At.v ‹_› rfl | exact Qr rfl); rfl; exact Qyl rfl; omega; assumption)
 | ((with_reducible apply QcS); exact At.v ‹_› rfl; (first | exact At.v ‹_› rfl | exact Qr rfl); exact Qiy rfl; exact KE rfl; rfl; omega; assumption)
 | ((with_reducible apply Q6); exact At.v ‹_› rfl; exact At.n ‹_› _ rfl; (first | exact At.w ‹_› rfl | exact Evl.ev (Qr rfl) | exact Evl.ev Zt); rfl; exact KE rfl; rfl)):Does A Tryz.prog o s s':=h
theorem zz (h:∀s,At plan deps s0 i s→Acts A P l0.toArray o s (Qa4 s it))(k:ActsH A P l0 plan deps s0 l p (i+1)):ActsH A P l0 plan deps s0 (o :: l) (it :: p) i:=⟨h,k⟩
theorem zI (h:∀s,At plan deps s0 i s→Acts A Tryz.prog l0.toArray o s (Qa4 s it):=by
 first
 | ((with_reducible apply dxm); rfl; rfl)
 | ((with_reducible apply dxf); exact Qpp rfl rfl; rfl; rfl; rfl)
 | ((with_reducible apply dxl); exact KE rfl; rfl; rfl; rfl; rfl; rfl)
 | ((with_reducible apply dxt); rfl; rfl)
 | ((with_reducible apply dxn); rfl; rfl; rfl)
 | ((with_reducible apply dxa); exact KE rfl; rfl; rfl; rfl; rfl)
 | ((with_reducible apply dxo); rfl; rfl; rfl)
 | (intro _ _; (apply ac); exact DH_; rfl)
 | (intro _ _; (apply day); rfl; exact At.k ‹_› rfl; exact DH_; rfl)
 | (intro _ _; (apply Qtn); rfl; rfl; exact At.k ‹_› rfl; rfl; rfl)):ActsH A Tryz.prog l0 plan deps s0 l p (i+1)→ActsH A Tryz.prog l0 plan deps s0 (o :: l) (it :: p) i:=fun k=>⟨h,k⟩
theorem z_ {G G':Prop}(k:G')(h:G'→G:=by exact zI):G:=h k
theorem zN (h:QkX l0 plan deps=true:=by kernel_rfl):ActsH A Tryz.prog l0 plan deps s0 [] [] i:=h
theorem dW {id:Nat}{y:Code}(plan:List Item)(ms:List Nat)(H:ActsH A Tryz.prog l plan (dms (rlm 1 ms)) s0 l plan 0)(k:AC A Tryz.prog y Q (stD plan s0 fun _=>true)):AC A Tryz.prog (.seq (.region id l.toArray true) y) Q s0:=by
 obtain ⟨b,a⟩:=H.to
 rw[QkX,aM] at a
 exact dw plan _ mixed (bg a.1) a.2 b k
theorem dV {id:Nat}(plan:List Item)(ms:List Nat)(H:ActsH A Tryz.prog l plan (dms (rlm 1 ms)) s0 l plan 0)(k:Q .normal (stD plan s0 fun _=>true)):AC A Tryz.prog (.region id l.toArray true) Q s0:=by
 obtain ⟨b,a⟩:=H.to
 rw[QkX,aM] at a
 exact dv plan _ mixed (bg a.1) a.2 b k
theorem dZ {id:Nat}{y:Code}{b:Exit→St→Prop}(plan:List Item)(ms:List Nat)(H:ActsH A Tryz.prog l plan (dms (rlm 1 ms)) s0 l plan 0)(k:AC A Tryz.prog y b (stD plan s0 fun _=>true)):AC A Tryz.prog (.region id l.toArray true) (Qai (AC A Tryz.prog y b) Q) s0:=by
 obtain ⟨e,a⟩:=H.to
 rw[QkX,aM] at a
 exact dz plan _ mixed (bg a.1) a.2 e k
end
section
variable {A:Amb}{s:St}{f:FuncId}{xs:List Operand}{tys:Array TypeId}{args:List (Bool×List LV)}{d k:Nat}{ty T:TypeId}{pos:String}{af:Array Edge}{g:Option (Nat×Bool)}{pv:PV}{U U':Tab}{x y:Operand}
theorem evN:EvL A s [] []:=rfl
theorem evC {c:Bool×List LV}{cs:List (Bool×List LV)}(h:Ev A s x c)(k:EvL A s xs cs):EvL A s (x :: xs) (c :: cs):=⟨_,_,rfl,h,k⟩
theorem ebN:EvLB A s [] []:=rfl
theorem ebC {c:Bool×List LV}{cs:List (Bool×List LV)}(h:EvB A s x c)(k:EvLB A s xs cs):EvLB A s (x :: xs) (c :: cs):=⟨_,_,rfl,h,k⟩
theorem abN {e:Ty}:AbsL U e [] [] []:=⟨rfl,rfl⟩
theorem abC {e:Ty}{c:Bool×List LV}{cs:List (Bool×List LV)}{z:e.Den}{zs:List e.Den}{a b:List Nat}(h:Abs U e c.2 z a)(k:AbsL U e cs zs b):AbsL U e (c :: cs) (z :: zs) (a++b):=⟨_,_,_,_,rfl,h,k,rfl⟩
theorem dK (e:FC Tryz.prog f args [] 0 (Za pv))(a:Qg Tryz.prog f)(b:EvL A s xs args:=by repeat' first | exact evN | exact Ql rfl | exact At.w ‹_› rfl | exact Evl.ev (Qr rfl) | exact Evl.ev Zt | exact Evl.ev (Evl.str rfl) | apply evC)(j:pv.tags=[]:=by rfl)(h:Nat.blt d A.n=true:=by rfl):Does A Tryz.prog ⟨some d, .call ⟨.value (.func f),xs.toArray,tys⟩,ty,pos,af,g⟩ s (s.put d pv):=Hj e a b j h
theorem dB_ (h:FC Tryz.prog f args [] 0 (Za pv))(a:Qg Tryz.prog f)(e:EvLB A s xs args:=by repeat' first | exact ebN | exact Ev.b (Ql rfl) | exact Ev.b (At.w ‹_› rfl) | exact Ev.b (Evl.ev (Qr rfl)) | exact Ev.b (Evl.ev Zt) | exact Ev.b (Evl.ev (Evl.str rfl)) | exact KI (Qa rfl) rfl | exact KI (At.v ‹_› rfl) (At.n ‹_› _ rfl) | apply ebC)(q:pv.tags=[]:=by rfl)(j:pv.fl=true:=by rfl)(m:Nat.blt d A.n=true:=by rfl):Does A Tryz.prog ⟨some d, .call ⟨.value (.func f),xs.toArray,tys⟩,ty,pos,af,g⟩ s (s.put d pv):=YQ h a e q j m
theorem dO (t:Nat){E:TypeId}{e:Ty}{zs:List e.Den}(m:FC Tryz.prog f args [] 0 (XB E e zs))(h:Qg Tryz.prog f)(j:EvL A s xs args:=by repeat' first | exact evN | exact Ql rfl | exact At.w ‹_› rfl | exact Evl.ev (Qr rfl) | exact Evl.ev Zt | exact Evl.ev (Evl.str rfl) | apply evC)(q:Nat.blt d A.n=true:=by rfl)(a:Fresh s t:=by first | exact Fresh.of rfl | exact At.fr ‹_› _ rfl)(b:A.k0≤t:=by exact nlr rfl):Does A Tryz.prog ⟨some d, .call ⟨.value (.func f),xs.toArray,tys⟩,ty,pos,af,g⟩ s (s.mk_ d t [] E e zs):=QkB t m h j q a b
theorem dOB (t:Nat){E:TypeId}{e:Ty}{zs:List e.Den}(q:FC Tryz.prog f args [] 0 (XB E e zs))(j:Qg Tryz.prog f)(m:EvLB A s xs args:=by repeat' first | exact ebN | exact Ev.b (Ql rfl) | exact Ev.b (At.w ‹_› rfl) | exact Ev.b (Evl.ev (Qr rfl)) | exact Ev.b (Evl.ev Zt) | exact Ev.b (Evl.ev (Evl.str rfl)) | exact KI (Qa rfl) rfl | exact KI (At.v ‹_› rfl) (At.n ‹_› _ rfl) | apply ebC)(r:Nat.blt d A.n=true:=by rfl)(a:Fresh s t:=by first | exact Fresh.of rfl | exact At.fr ‹_› _ rfl)(h:A.k0≤t:=by exact nlr rfl):Does A Tryz.prog ⟨some d, .call ⟨.value (.func f),xs.toArray,tys⟩,ty,pos,af,g⟩ s (s.mk_ d t [] E e zs):=UC t q j m r a h
theorem dG (n:Nat)(m:FC Tryz.prog f args [] 0 (Is pv U))(h:Qg Tryz.prog f)(j:EvL A s xs args:=by repeat' first | exact evN | exact Ql rfl | exact At.w ‹_› rfl | exact Evl.ev (Qr rfl) | exact Evl.ev Zt | exact Evl.ev (Evl.str rfl) | apply evC)(a:Yk pv U=true:=by rfl)(q:Nat.blt d A.n=true:=by rfl)(b:FrL s n (ZD U):=by repeat' first | exact trivial | exact Fresh.of rfl | exact At.fr ‹_› _ rfl | apply And.intro)(e:A.k0≤n:=by exact nlr rfl):Does A Tryz.prog ⟨some d, .call ⟨.value (.func f),xs.toArray,tys⟩,ty,pos,af,g⟩ s (s.back d n pv U):=Qd6 n m h j a q b e
theorem dP (n:Nat)(ρ:List (Nat×Nat))(q:FC Tryz.prog f args U k (Is pv U'))(h:Qg Tryz.prog f)(m:EvL A s xs (args.map fun c=>(c.1,c.2.map (LV.ren (rn ρ)))):=by repeat' first | exact evN | exact Ql rfl | exact At.w ‹_› rfl | exact Evl.ev (Qr rfl) | exact Evl.ev Zt | exact Evl.ev (Evl.str rfl) | apply evC)(j:HasE s ρ U:=by repeat' first | exact rfl | exact trivial | exact At.n ‹_› _ rfl | apply And.intro)(e:(WQ (U.map fun p=>rn ρ p.1)&&Yk pv U'&&WQ (U'.map fun p=>sg ρ k n p.1)&&QjM U U' k&&Nat.blt d A.n)=true:=by rfl)(a:FrK s n k (ZD U'):=by repeat' first | exact trivial | exact Fresh.of rfl | exact At.fr ‹_› _ rfl | apply And.intro)(b:A.k0≤n:=by exact nlr rfl):Does A Tryz.prog ⟨some d, .call ⟨.value (.func f),xs.toArray,tys⟩,ty,pos,af,g⟩ s (s.backP d (sg ρ k n) (U.map fun p=>rn ρ p.1) pv U'):=KG n ρ q h m j e a b
theorem dA {q q2:Nat}{E:TypeId}{e:Ty}{us ys:List e.Den}(t:Nat)(m:Wt Tryz.prog E e.wd=true)(z:Evl A s x (.ref q):=by first | exact Qa rfl | exact At.v ‹_› rfl)(u:s.tab.ent q=some (.arr E e us):=by first | exact rfl | exact At.n ‹_› _ rfl)(B:Evl A s y (.ref q2):=by first | exact Qa rfl | exact At.v ‹_› rfl)(a:s.tab.ent q2=some (.arr E e ys):=by first | exact rfl | exact At.n ‹_› _ rfl)(j:Nat.beq q q2=false:=by rfl)(r:Tryz.prog.underlying T=some (.slice E):=by exact Qiy rfl)(hb:us.length+ys.length≤1073741824:=by first | omega | (simp only[ae,aB,ao,aq,az]; omega) | (simp only[ae,aW,ao,aq,az]; omega))(w:Nat.blt d A.n=true:=by rfl)(b:Fresh s t:=by first | exact Fresh.of rfl | exact At.fr ‹_› _ rfl)(h:A.k0≤t:=by exact nlr rfl):Does A Tryz.prog ⟨some d, .call {callee:= .builtin .append,args:= #[x,y],argTypes:= #[T,T]},ty,pos,af,g⟩ s (s.mk_ d t [q,q2] E e (us++ys)):=QiW t z u B a j r m hb w b h
theorem dBs (t:Nat){E:TypeId}{e:Ty}{n:Nat}{a:Array (Nat×Operand)}{h:List (Bool×List LV)}{us:List e.Den}{b:List Nat}{B:Bool}{z:Value}(G:zer Tryz.prog E=some z)(D:Tryz.prog.underlying T=some (.slice E):=by exact Qiy rfl)(C:tsh Tryz.prog E=some (B,e.wd):=by exact KE rfl)(r:a.toList.map (·.1)=List.range n:=by rfl)(hv:EvL A s (a.toList.map (·.2)) h:=by repeat' first | exact evN | exact Ql rfl | exact At.w ‹_› rfl | exact Evl.ev (Qr rfl) | exact Evl.ev Zt | exact Evl.ev (Evl.str rfl) | apply evC)(q:∀c∈h,QW s.tab c.2=true:=by exact av.1 rfl)(hab:AbsL s.tab e h us b:=by repeat' first | exact abN | exact ⟨rfl,rfl⟩ | apply abC)(v:b.Nodup:=by decide)(u:Nat.ble (n*e.wd) 16777216=true:=by rfl)(F:Nat.blt d A.n=true:=by rfl)(j:Fresh s t:=by first | exact Fresh.of rfl | exact At.fr ‹_› _ rfl)(m:A.k0≤t:=by exact nlr rfl):Does A Tryz.prog ⟨some d, .buildSlice T n a,ty,pos,af,g⟩ s (s.mk_ d t b E e us):=Yp t D C G r hv q hab v u F j m
end
section
variable {A:Amb}{s s1:St}{Q:Exit→St→Prop}{ops:Array Oper}{l:List Oper}{c x y:Code}{fn:Func}{k:Nat}{O O':PV→Tab→Prop}{pv pv0:PV}{T:Tab}
theorem alL (t:Nat){E:TypeId}{e:Ty}{u:List e.Den}(k:u.length≤9223372036854775807→AL A Tryz.prog ops l Q s)(h:Evl A s (.tmp t) (.dat (.sl E e) u):=by exact Qa rfl):AL A Tryz.prog ops l Q s:=AL.fact (Qry h) k
theorem alS (t:Nat){u:ByteArray}(k:u.size≤9223372036854775807→AL A Tryz.prog ops l Q s)(h:Evl A s (.tmp t) (dS u):=by exact Qa rfl):AL A Tryz.prog ops l Q s:=AL.fact (Qpj h) k
theorem alI (t:Nat){n:Int}(k: -9223372036854775808≤n∧n≤9223372036854775807→AL A Tryz.prog ops l Q s)(h:Evl A s (.tmp t) (dI n):=by exact Qa rfl):AL A Tryz.prog ops l Q s:=AL.fact (Qjy h) k
theorem acI (t:Nat){n:Int}(k: -9223372036854775808≤n∧n≤9223372036854775807→AC A Tryz.prog c Q s)(h:Evl A s (.tmp t) (dI n):=by exact Qa rfl):AC A Tryz.prog c Q s:=AC.fact (Qjy h) k
theorem acG (t i:Nat){ls:List LV}{n:Int}(k: -9223372036854775808≤n∧n≤9223372036854775807→AC A Tryz.prog c Q s)(h:Ev A s (.tmp t) (true,ls):=by exact Ql rfl)(hi:ls[i]? =some (dI n):=by rfl):AC A Tryz.prog c Q s:=AC.fact (Qt9 h hi) k
theorem cd_ {z:Operand}{p:Prop}{a:Decidable p}(e: @decide p a=false→¬p→AC A Tryz.prog y Q s)(j: @decide p a=true→p→AC A Tryz.prog x Q s)(b:Evl A s z (dB (@decide p a)):=by exact Qa rfl):AC A Tryz.prog (.cond z x y) Q s:=Hh b (fun h=>j h (ab h)) fun h=>e h (aa h)
theorem cn_ {z:Operand}{p:Prop}{a:Decidable p}(e:(!@decide p a)=false→p→AC A Tryz.prog y Q s)(j:(!@decide p a)=true→¬p→AC A Tryz.prog x Q s)(b:Evl A s z (dB (!@decide p a)):=by exact Qa rfl):AC A Tryz.prog (.cond z x y) Q s:=Hh b (fun h=>j h (Zb h)) fun h=>e h (QY h)
theorem cb_ {z:Operand}{b:Bool}(e:b=false→AC A Tryz.prog y Q s)(h:b=true→AC A Tryz.prog x Q s)(a:Evl A s z (dB b):=by exact Qa rfl):AC A Tryz.prog (.cond z x y) Q s:=Hh a h e
theorem cx_ {z:Operand}{b:Bool}(e:b=false→AC A Tryz.prog x Q s)(j:b=true→AC A Tryz.prog y Q s)(a:Evl A s z (dB (!b)):=by exact Qa rfl):AC A Tryz.prog (.cond z x y) Q s:=Hh a (fun h=>e (by simpa using h)) fun h=>j (by simpa using h)
theorem rs_ {r:ResultVar}{d:Bool×List LV}(h:Rs A Tryz.prog s r d:=by first | exact Vu rfl | exact Rs.cell rfl rfl (KE rfl) rfl | exact QqE rfl rfl (KE rfl)):Rs A Tryz.prog s r d:=h
theorem re_ (h:Res A Tryz.prog fn s pv:=by first | exact Res.one rfl rs_ | exact Y9 rfl rs_ rs_ | exact QbY rfl rs_ rs_ rs_ | exact QqD rfl rs_ rs_ rs_ rs_ | exact Res.zero rfl):Res A Tryz.prog fn s pv:=h
theorem fe_ (a:O=Za pv)(h:Res A Tryz.prog fn s pv:=by exact re_)(b:pv.tags=[]:=by rfl):fin A Tryz.prog fn (Qao O k) .ret s:=by subst a; exact Kq h rfl b
theorem fqI {u v:Int}(a:O=Za (lf (dI v)))(e:u=v)(h:Res A Tryz.prog fn s (lf (dI u)):=by exact re_):fin A Tryz.prog fn (Qao O k) .ret s:=by subst a; subst e; exact Kq h rfl rfl
theorem fqB {u v:Bool}(a:O=Za (lf (dB v)))(e:u=v)(h:Res A Tryz.prog fn s (lf (dB u)):=by exact re_):fin A Tryz.prog fn (Qao O k) .ret s:=by subst a; subst e; exact Kq h rfl rfl
theorem fqS {u v:ByteArray}(a:O=Za (lf (dS v)))(e:u=v)(h:Res A Tryz.prog fn s (lf (dS u)):=by exact re_):fin A Tryz.prog fn (Qao O k) .ret s:=by subst a; subst e; exact Kq h rfl rfl
theorem fq_ {t:Ty}{u v:t.Den}(a:O=Za (lf (.dat t v)))(e:u=v)(h:Res A Tryz.prog fn s (lf (.dat t u)):=by exact re_):fin A Tryz.prog fn (Qao O k) .ret s:=by subst a; subst e; exact Kq h rfl rfl
theorem fr_ (a:O=Za pv)(h:Res A Tryz.prog fn s pv0:=by exact re_)(e:pv0=pv)(b:pv.tags=[]:=by rfl):fin A Tryz.prog fn (Qao O k) .ret s:=by subst a; exact Kq h e b
theorem fo_ {q:Nat}{E:TypeId}{e:Ty}{u v:List e.Den}(a:O=XB E e v)(j:u=v)(h:Res A Tryz.prog fn s (lf (.ref q)):=by exact re_)(b:s.tab.ent q=some (.arr E e u):=by rfl):fin A Tryz.prog fn (Qao O 0) .ret s:=by subst a; exact Que h b j
theorem fi_ (ρ:List (Nat×Nat))(j:O=Is pv T)(b:HasE ⟨[],s.tab⟩ ρ T)(a:Res A Tryz.prog fn s pv0:=by exact re_)(h0:pv0=pv.ren (rn ρ):=by rfl)(e:WQ (T.map fun x=>rn ρ x.1)=true:=by rfl)(h:idB ρ k=true:=by rfl):fin A Tryz.prog fn (Qao O k) .ret s:=by subst j; exact Qv3 pv T ρ a h0 b e h
theorem lp0 (n:Nat)(F:Nat→St)(j:Wk A s (F 0))(a:∀k,k≤n→AC A Tryz.prog c (Qai (fun s1=>k+1≤n∧Wk A s1 (F (k+1))) Q) (F k)):AC A Tryz.prog (.loop c) Q s:=
 QH (fun m s=>∃k,k≤n∧m=n - k∧s=F k) ⟨0,aP _,rfl,rfl⟩ j (by
  rintro m s ⟨k,b,rfl,rfl⟩
  refine (a k b).mono fun e s h=> ?_
  cases e <;> first | exact h | exact ⟨n - (k+1),_,by have:=h.1; omega,h.2,k+1,h.1,rfl,rfl⟩)
theorem lpK (n:Nat)(J:Nat→Prop)(F:Nat→St)(q:J 0)(r:Wk A s (F 0))(a:∀k,k≤n→J k→AC A Tryz.prog c (Qai (fun s1=>k+1≤n∧J (k+1)∧Wk A s1 (F (k+1))) Q) (F k)):AC A Tryz.prog (.loop c) Q s:=
 QH (fun m s=>∃k,k≤n∧m=n - k∧J k∧s=F k) ⟨0,aP _,rfl,q,rfl⟩ r (by
  rintro m s ⟨k,j,rfl,b,rfl⟩
  refine (a k j b).mono fun e s h=> ?_
  cases e <;> first | exact h | exact ⟨n - (k+1),_,by have:=h.1; omega,h.2.2,k+1,h.1,rfl,h.2.1,rfl⟩)
theorem l0_ {n:Nat}{a:St}(w:Wk A s1 a)(h:k+1≤n:=by omega):k+1≤n∧Wk A s1 a:=⟨h,w⟩
theorem lK_ {n:Nat}{J:Prop}{a:St}(j:J)(w:Wk A s1 a)(h:k+1≤n:=by omega):k+1≤n∧J∧Wk A s1 a:=⟨h,j,w⟩
end
@[reducible] def bx (q E:Nat) (cs:List LV):Nat×Option Ent:=(q,some (.box E cs))
@[reducible] def ar (q E:Nat) (e:Ty) (xs:List e.Den):Nat×Option Ent:=(q,some (.arr E e xs))
@[reducible] def i2 (d:Nat) (a0 a1:PV) (l:List Item):List Item:=io (d) a0 :: io (Nat.succ (d)) a1 :: l
@[reducible] def i3 (d:Nat) (a0 a1 a2:PV) (l:List Item):List Item:=io (d) a0 :: io (Nat.succ (d)) a1 :: io (Nat.succ (Nat.succ (d))) a2 :: l
@[reducible] def i4 (d:Nat) (a0 a1 a2 a3:PV) (l:List Item):List Item:=io (d) a0 :: io (Nat.succ (d)) a1 :: io (Nat.succ (Nat.succ (d))) a2 :: io (Nat.succ (Nat.succ (Nat.succ (d)))) a3 :: l
@[reducible] def i5 (d:Nat) (a0 a1 a2 a3 a4:PV) (l:List Item):List Item:=io (d) a0 :: io (Nat.succ (d)) a1 :: io (Nat.succ (Nat.succ (d))) a2 :: io (Nat.succ (Nat.succ (Nat.succ (d)))) a3 :: io (Nat.succ (Nat.succ (Nat.succ (Nat.succ (d))))) a4 :: l
@[reducible] def i6 (d:Nat) (a0 a1 a2 a3 a4 a5:PV) (l:List Item):List Item:=io (d) a0 :: io (Nat.succ (d)) a1 :: io (Nat.succ (Nat.succ (d))) a2 :: io (Nat.succ (Nat.succ (Nat.succ (d)))) a3 :: io (Nat.succ (Nat.succ (Nat.succ (Nat.succ (d))))) a4 :: io (Nat.succ (Nat.succ (Nat.succ (Nat.succ (Nat.succ (d)))))) a5 :: l
@[reducible] def i7 (d:Nat) (a0 a1 a2 a3 a4 a5 a6:PV) (l:List Item):List Item:=io (d) a0 :: io (Nat.succ (d)) a1 :: io (Nat.succ (Nat.succ (d))) a2 :: io (Nat.succ (Nat.succ (Nat.succ (d)))) a3 :: io (Nat.succ (Nat.succ (Nat.succ (Nat.succ (d))))) a4 :: io (Nat.succ (Nat.succ (Nat.succ (Nat.succ (Nat.succ (d)))))) a5 :: io (Nat.succ (Nat.succ (Nat.succ (Nat.succ (Nat.succ (Nat.succ (d))))))) a6 :: l
@[reducible] def i8 (d:Nat) (a0 a1 a2 a3 a4 a5 a6 a7:PV) (l:List Item):List Item:=io (d) a0 :: io (Nat.succ (d)) a1 :: io (Nat.succ (Nat.succ (d))) a2 :: io (Nat.succ (Nat.succ (Nat.succ (d)))) a3 :: io (Nat.succ (Nat.succ (Nat.succ (Nat.succ (d))))) a4 :: io (Nat.succ (Nat.succ (Nat.succ (Nat.succ (Nat.succ (d)))))) a5 :: io (Nat.succ (Nat.succ (Nat.succ (Nat.succ (Nat.succ (Nat.succ (d))))))) a6 :: io (Nat.succ (Nat.succ (Nat.succ (Nat.succ (Nat.succ (Nat.succ (Nat.succ (d)))))))) a7 :: l
@[reducible] def i9 (d:Nat) (a0 a1 a2 a3 a4 a5 a6 a7 a8:PV) (l:List Item):List Item:=io (d) a0 :: io (Nat.succ (d)) a1 :: io (Nat.succ (Nat.succ (d))) a2 :: io (Nat.succ (Nat.succ (Nat.succ (d)))) a3 :: io (Nat.succ (Nat.succ (Nat.succ (Nat.succ (d))))) a4 :: io (Nat.succ (Nat.succ (Nat.succ (Nat.succ (Nat.succ (d)))))) a5 :: io (Nat.succ (Nat.succ (Nat.succ (Nat.succ (Nat.succ (Nat.succ (d))))))) a6 :: io (Nat.succ (Nat.succ (Nat.succ (Nat.succ (Nat.succ (Nat.succ (Nat.succ (d)))))))) a7 :: io (Nat.succ (Nat.succ (Nat.succ (Nat.succ (Nat.succ (Nat.succ (Nat.succ (Nat.succ (d))))))))) a8 :: l
theorem wI2 {G G1 G':Prop}(h1:G1→G:=by exact wI)(h2:G'→G1:=by exact wI):G'→G:=fun k=>h1 (h2 k)
theorem wI4 {G G1 G':Prop}(h1:G1→G:=by exact wI2)(h2:G'→G1:=by exact wI2):G'→G:=fun k=>h1 (h2 k)
theorem wI8 {G G1 G':Prop}(h1:G1→G:=by exact wI4)(h2:G'→G1:=by exact wI4):G'→G:=fun k=>h1 (h2 k)
theorem zI2 {G G1 G':Prop}(h1:G1→G:=by exact zI)(h2:G'→G1:=by exact zI):G'→G:=fun k=>h1 (h2 k)
theorem zI4 {G G1 G':Prop}(h1:G1→G:=by exact zI2)(h2:G'→G1:=by exact zI2):G'→G:=fun k=>h1 (h2 k)
theorem zI8 {G G1 G':Prop}(h1:G1→G:=by exact zI4)(h2:G'→G1:=by exact zI4):G'→G:=fun k=>h1 (h2 k)
theorem y1 {G G1:Prop}(h1:G1→G:=by exact zI)(h0:G1:=by exact zN):G:=h1 h0
theorem w2 {G G':Prop}(k:G')(h1:G'→G:=by exact wI2):G:=h1 k
theorem z2 {G G':Prop}(k:G')(h1:G'→G:=by exact zI2):G:=h1 k
theorem y2 {G G1:Prop}(h1:G1→G:=by exact zI2)(h0:G1:=by exact zN):G:=h1 h0
theorem w3 {G G1 G':Prop}(k:G')(h1:G1→G:=by exact wI2)(h2:G'→G1:=by exact wI):G:=h1 (h2 k)
theorem z3 {G G1 G':Prop}(k:G')(h1:G1→G:=by exact zI2)(h2:G'→G1:=by exact zI):G:=h1 (h2 k)
theorem y3 {G G1 G2:Prop}(h1:G1→G:=by exact zI2)(h2:G2→G1:=by exact zI)(h0:G2:=by exact zN):G:=h1 (h2 h0)
theorem w4 {G G':Prop}(k:G')(h1:G'→G:=by exact wI4):G:=h1 k
theorem z4 {G G':Prop}(k:G')(h1:G'→G:=by exact zI4):G:=h1 k
theorem y4 {G G1:Prop}(h1:G1→G:=by exact zI4)(h0:G1:=by exact zN):G:=h1 h0
theorem w5 {G G1 G':Prop}(k:G')(h1:G1→G:=by exact wI4)(h2:G'→G1:=by exact wI):G:=h1 (h2 k)
theorem z5 {G G1 G':Prop}(k:G')(h1:G1→G:=by exact zI4)(h2:G'→G1:=by exact zI):G:=h1 (h2 k)
theorem y5 {G G1 G2:Prop}(h1:G1→G:=by exact zI4)(h2:G2→G1:=by exact zI)(h0:G2:=by exact zN):G:=h1 (h2 h0)
theorem w6 {G G1 G':Prop}(k:G')(h1:G1→G:=by exact wI4)(h2:G'→G1:=by exact wI2):G:=h1 (h2 k)
theorem z6 {G G1 G':Prop}(k:G')(h1:G1→G:=by exact zI4)(h2:G'→G1:=by exact zI2):G:=h1 (h2 k)
theorem w7 {G G1 G2 G':Prop}(k:G')(h1:G1→G:=by exact wI4)(h2:G2→G1:=by exact wI2)(h3:G'→G2:=by exact wI):G:=h1 (h2 (h3 k))
theorem z7 {G G1 G2 G':Prop}(k:G')(h1:G1→G:=by exact zI4)(h2:G2→G1:=by exact zI2)(h3:G'→G2:=by exact zI):G:=h1 (h2 (h3 k))
theorem y7 {G G1 G2 G3:Prop}(h1:G1→G:=by exact zI4)(h2:G2→G1:=by exact zI2)(h3:G3→G2:=by exact zI)(h0:G3:=by exact zN):G:=h1 (h2 (h3 h0))
theorem w8 {G G':Prop}(k:G')(h1:G'→G:=by exact wI8):G:=h1 k
theorem z8 {G G':Prop}(k:G')(h1:G'→G:=by exact zI8):G:=h1 k
theorem y8 {G G1:Prop}(h1:G1→G:=by exact zI8)(h0:G1:=by exact zN):G:=h1 h0
theorem w9 {G G1 G':Prop}(k:G')(h1:G1→G:=by exact wI8)(h2:G'→G1:=by exact wI):G:=h1 (h2 k)
theorem y9 {G G1 G2:Prop}(h1:G1→G:=by exact zI8)(h2:G2→G1:=by exact zI)(h0:G2:=by exact zN):G:=h1 (h2 h0)
theorem w10 {G G1 G':Prop}(k:G')(h1:G1→G:=by exact wI8)(h2:G'→G1:=by exact wI2):G:=h1 (h2 k)
theorem z10 {G G1 G':Prop}(k:G')(h1:G1→G:=by exact zI8)(h2:G'→G1:=by exact zI2):G:=h1 (h2 k)
theorem y10 {G G1 G2:Prop}(h1:G1→G:=by exact zI8)(h2:G2→G1:=by exact zI2)(h0:G2:=by exact zN):G:=h1 (h2 h0)
theorem w11 {G G1 G2 G':Prop}(k:G')(h1:G1→G:=by exact wI8)(h2:G2→G1:=by exact wI2)(h3:G'→G2:=by exact wI):G:=h1 (h2 (h3 k))
theorem z11 {G G1 G2 G':Prop}(k:G')(h1:G1→G:=by exact zI8)(h2:G2→G1:=by exact zI2)(h3:G'→G2:=by exact zI):G:=h1 (h2 (h3 k))
theorem w12 {G G1 G':Prop}(k:G')(h1:G1→G:=by exact wI8)(h2:G'→G1:=by exact wI4):G:=h1 (h2 k)
theorem z12 {G G1 G':Prop}(k:G')(h1:G1→G:=by exact zI8)(h2:G'→G1:=by exact zI4):G:=h1 (h2 k)
theorem y12 {G G1 G2:Prop}(h1:G1→G:=by exact zI8)(h2:G2→G1:=by exact zI4)(h0:G2:=by exact zN):G:=h1 (h2 h0)
theorem w13 {G G1 G2 G':Prop}(k:G')(h1:G1→G:=by exact wI8)(h2:G2→G1:=by exact wI4)(h3:G'→G2:=by exact wI):G:=h1 (h2 (h3 k))
theorem w14 {G G1 G2 G':Prop}(k:G')(h1:G1→G:=by exact wI8)(h2:G2→G1:=by exact wI4)(h3:G'→G2:=by exact wI2):G:=h1 (h2 (h3 k))
theorem z14 {G G1 G2 G':Prop}(k:G')(h1:G1→G:=by exact zI8)(h2:G2→G1:=by exact zI4)(h3:G'→G2:=by exact zI2):G:=h1 (h2 (h3 k))
theorem y14 {G G1 G2 G3:Prop}(h1:G1→G:=by exact zI8)(h2:G2→G1:=by exact zI4)(h3:G3→G2:=by exact zI2)(h0:G3:=by exact zN):G:=h1 (h2 (h3 h0))
theorem w15 {G G1 G2 G3 G':Prop}(k:G')(h1:G1→G:=by exact wI8)(h2:G2→G1:=by exact wI4)(h3:G3→G2:=by exact wI2)(h4:G'→G3:=by exact wI):G:=h1 (h2 (h3 (h4 k)))
theorem z15 {G G1 G2 G3 G':Prop}(k:G')(h1:G1→G:=by exact zI8)(h2:G2→G1:=by exact zI4)(h3:G3→G2:=by exact zI2)(h4:G'→G3:=by exact zI):G:=h1 (h2 (h3 (h4 k)))
theorem y15 {G G1 G2 G3 G4:Prop}(h1:G1→G:=by exact zI8)(h2:G2→G1:=by exact zI4)(h3:G3→G2:=by exact zI2)(h4:G4→G3:=by exact zI)(h0:G4:=by exact zN):G:=h1 (h2 (h3 (h4 h0)))
theorem w16 {G G1 G':Prop}(k:G')(h1:G1→G:=by exact wI8)(h2:G'→G1:=by exact wI8):G:=h1 (h2 k)
theorem z16 {G G1 G':Prop}(k:G')(h1:G1→G:=by exact zI8)(h2:G'→G1:=by exact zI8):G:=h1 (h2 k)
end Go.Proofs.YtndabgcpnmeeoaaGreat
namespace Go.Proofs.YtndabgcpnmeeoaaGreat
open Go.RowKit
section
variable {A:Amb}{P:Program}{s:St}{x y:Operand}{d:Nat}{T T' ty:TypeId}{pos:String}{af:Array Edge}{g:Option (Nat×Bool)}
theorem QjI (a:BinOp)(b:a= .and∨a= .or)(m n:Nat)(h:m < 9223372036854775808)(i:n < 9223372036854775808):bits a .i64 (m:Int) (n:Int)=((if a= .and then m &&& n else m ||| n:Nat):Int):=by
 have c:(BitVec.ofInt 64 (m:Int)).toNat=m:=by rw[BitVec.ofInt_natCast,BitVec.toNat_ofNat]; exact dM (by omega)
 have e:(BitVec.ofInt 64 (n:Int)).toNat=n:=by rw[BitVec.ofInt_natCast,BitVec.toNat_ofNat]; exact dM (by omega)
 rcases b with rfl | rfl
 ·have f:m &&& n < 2 ^ 63:=Nat.and_lt_two_pow _ (by omega)
  show IntKind.i64.wrap ((BitVec.ofInt 64 (m:Int) &&& BitVec.ofInt 64 (n:Int)).toNat:Int)=_
  rw[BitVec.toNat_and,c,e,IntWalk.i64_in _ (by omega)]
  rfl
 ·have f:m ||| n < 2 ^ 63:=Nat.or_lt_two_pow (by omega) (by omega)
  show IntKind.i64.wrap ((BitVec.ofInt 64 (m:Int) ||| BitVec.ofInt 64 (n:Int)).toNat:Int)=_
  rw[BitVec.toNat_or,c,e,IntWalk.i64_in _ (by omega)]
  rfl
theorem Qxi {m n:Int}(f:Evl A s x (dI m))(h:Evl A s y (dI n))(o:Nat.blt d A.n=true)(h0:0≤m)(c:0≤n):Does A P ⟨some d, .binOp .and T x y T',ty,pos,af,g⟩ s (s.put d (lf (dI ((m.toNat &&& n.toNat:Nat):Int)))):=
 Qi rfl o fun e a w r=>by
  have j:=f.i r
  have k:=h.i r
  have q:=(LVR.int (f e a w r)).2
  have t:=(LVR.int (h e a w r)).2
  have b:=QjI .and (.inl rfl) m.toNat n.toNat (by omega) (by omega)
  rw[cM h0,cM c] at b
  have b:bits .and .i64 m n=((m.toNat &&& n.toNat:Nat):Int):=b
  have l:Op.intBits .and .i64 m n=pure (.int .i64 ((m.toNat &&& n.toNat:Nat):Int)):=by rw[← b]; rfl
  have p:m.toNat &&& n.toNat≤m.toNat:=Nat.and_le_left
  refine ⟨.int .i64 ((m.toNat &&& n.toNat:Nat):Int), ?_,_,rfl,Yj (by omega)⟩
  simp only[execOp,j,k,eqGuard_at_int,binOp,l]
  simp
theorem QyG {m n:Int}(f:Evl A s x (dI m))(h:Evl A s y (dI n))(o:Nat.blt d A.n=true)(h0:0≤m)(c:0≤n):Does A P ⟨some d, .binOp .or T x y T',ty,pos,af,g⟩ s (s.put d (lf (dI ((m.toNat ||| n.toNat:Nat):Int)))):=
 Qi rfl o fun e a w r=>by
  have j:=f.i r
  have k:=h.i r
  have q:=(LVR.int (f e a w r)).2
  have t:=(LVR.int (h e a w r)).2
  have b:=QjI .or (.inr rfl) m.toNat n.toNat (by omega) (by omega)
  rw[cM h0,cM c] at b
  have b:bits .or .i64 m n=((m.toNat ||| n.toNat:Nat):Int):=b
  have l:Op.intBits .or .i64 m n=pure (.int .i64 ((m.toNat ||| n.toNat:Nat):Int)):=by rw[← b]; rfl
  have p:m.toNat ||| n.toNat < 2 ^ 63:=Nat.or_lt_two_pow (by omega) (by omega)
  refine ⟨.int .i64 ((m.toNat ||| n.toNat:Nat):Int), ?_,_,rfl,Yj (by omega)⟩
  simp only[execOp,j,k,eqGuard_at_int,binOp,l]
  simp
theorem Qxj {m n:Int}(c:Evl A s x (dI m))(l:Evl A s y (dI n))(k:Nat.blt d A.n=true)(h0:0≤n∧n≤62)(b:0≤m):Does A P ⟨some d, .binOp .shr T x y T',ty,pos,af,g⟩ s (s.put d (lf (dI (m / 2 ^ n.toNat)))):=
 Qi rfl k fun e a w r=>by
  have f:=c.i r
  have h:=l.i r
  have q:=(LVR.int (c e a w r)).2
  have j:Op.shift .shr .i64 m .i64 n=pure (.int .i64 (m / 2 ^ n.toNat)):=by
   rw[shift_shr_any _ _ _ _ h0.1,show IntKind.i64.bits=64 from rfl,cu (by omega)]
  have o:0≤m / 2 ^ n.toNat:=Int.ediv_nonneg b (Int.pow_nonneg (by decide))
  have p:m / 2 ^ n.toNat≤m:=Int.ediv_le_self _ b
  refine ⟨.int .i64 (m / 2 ^ n.toNat), ?_,_,rfl,Yj (by omega)⟩
  simp only[execOp,f,h,eqGuard_at_int,binOp,j]
  simp
end
end Go.Proofs.YtndabgcpnmeeoaaGreat
namespace Go.Proofs.YtndabgcpnmeeoaaGreat
open Go.RowKit
theorem QvY:EqT Tryz.prog 2 60 true (.pr .int (.pr .int .bool)):=EqT.struct Tryz.underlying60 (by kernel_rfl) (EqFs.cons (by decide) rfl Xe (fun _=>rfl) (EqT.int Jw) (EqFs.cons (by decide) rfl Xe (fun _=>rfl) (EqT.int Jw) (EqFs.one (by decide) rfl QoE (fun _=>rfl) (EqT.bool Jx))))
theorem QvX:(Tryz.prog.eqGuardType Tryz.prog.depth 60=false)∧2≤10000:=⟨by kernel_rfl,by decide⟩
theorem QhW:EqT Tryz.prog 2 75 true (.pr .int .bool):=EqT.struct Tryz.underlying75 (by kernel_rfl) (EqFs.cons (by decide) rfl Xe (fun _=>rfl) (EqT.int Jw) (EqFs.one (by decide) rfl QoE (fun _=>rfl) (EqT.bool Jx)))
theorem QhV:(Tryz.prog.eqGuardType Tryz.prog.depth 75=false)∧2≤10000:=⟨by kernel_rfl,by decide⟩
theorem Qrw:EqT Tryz.prog 2 77 true (.pr .str .int):=EqT.struct Tryz.underlying77 (by kernel_rfl) (EqFs.cons (by decide) rfl Xw (fun _=>rfl) (EqT.str ZN) (EqFs.one (by decide) rfl Xe (fun _=>rfl) (EqT.int Jw)))
theorem Qrv:(Tryz.prog.eqGuardType Tryz.prog.depth 77=false)∧2≤10000:=⟨by kernel_rfl,by decide⟩
theorem Qc4:KeyL Tryz.prog 9 false .str:=KeyL.str ZN
theorem QyC:ZeroV Tryz.prog 3 false .int:=⟨_,Zq,rfl⟩
end Go.Proofs.YtndabgcpnmeeoaaGreat
namespace Go.Proofs.YtndabgcpnmeeoaaGreat
open Go.RowKit
def VE (xs:List Int):List Int:=xs.mergeSort fun x y=>decide (x≤y)
theorem QaN (xs:List Int):(VE xs).Perm xs:=List.mergeSort_perm ..
theorem Qcw (xs:List Int):(VE xs).length=xs.length:=(QaN xs).length_eq
theorem Qcx {xs:List Int}{x:Int}:x∈VE xs↔x∈xs:=(QaN xs).mem_iff
theorem Qbz (xs:List Int):(VE xs).Pairwise fun x y=>x≤y:=by
 have h:=List.pairwise_mergeSort (le:=fun x y:Int=>decide (x≤y)) (fun a b c d e=>by simp only[aS] at*; omega) (fun a b=>by simp only[cy,aS]; omega) xs
 exact h.imp fun h=>by simpa using h
theorem QcB {w:World}:∀{xs:List Int} {fp:List Nat} {cs:List Value},OwnL (Own .int w) fp cs xs→fp=[]∧cs=xs.map (Value.int .i64)∧∀x∈xs, -9223372036854775808≤x∧x≤9223372036854775807
 | [],fp,cs,h=>⟨h.1,h.2,fun x e=>by cases e⟩
 | x :: xs,fp,cs,h=>by
  obtain ⟨f,g,l,r,rfl,rfl,⟨rfl,rfl,b⟩,c⟩:=h
  obtain ⟨rfl,rfl,d⟩:=QcB c
  exact ⟨rfl,rfl,fun y a=>by rcases aE.1 a with rfl | a; exact b; exact d y a⟩
theorem Qii {w:World}:∀{xs:List Int},(∀x∈xs, -9223372036854775808≤x∧x≤9223372036854775807)→OwnL (Own .int w) [] (xs.map (Value.int .i64)) xs
 | [],_=>⟨rfl,rfl⟩
 | x :: xs,h=>⟨[],[],[.int .i64 x],xs.map (Value.int .i64),rfl,rfl,⟨rfl,rfl,h x (aw ..)⟩,Qii fun y a=>h y (ax _ a)⟩
def QqF (P:Program)(f:FuncId):Prop:=∀(blk cap:Nat) (zs:List Int) (w:World),Sort.Holds (Value.int .i64) w blk 0 zs.toArray→blk < w.heap.size→zs.length < 4611686018427387904→
 Calls P f #[.slice (some ⟨blk,0,none⟩) zs.length cap] w fun e w'=>e= .returned (.tuple #[])∧∃n os,w'=Sort.grow (Sort.putRow (Value.int .i64) (Sort.ahead w n) blk 0 (VE zs).toArray) os
def Qa3 (P:Program)(f:FuncId):Prop:=∀w:World,Calls P f #[.slice none 0 0] w fun e w'=>e= .returned (.tuple #[])∧Nw w w'
theorem Qqy {P:Program}{f:FuncId}{E:TypeId}(Q:QqF P f)(N:Qa3 P f)(xs:List Int)(hl:xs.length≤1000000000):FC P f [(false,[.ref 0])] [(0,some (.arr E .int xs))] 1 (Is (.tup []) [(0,some (.arr E .int (VE xs)))]):=fun A w vs u R=>by
 obtain ⟨v,Z,rfl,⟨l,D,B⟩,rfl⟩:=R
 simp only[aD,and_true] at D
 subst D
 have U:v=A.h 0:=B ⟨_,rfl⟩
 subst U
 have O:Own (.sl E .int) w (A.f 0) [A.h 0] xs:=u.en 0 _ rfl
 have a:∀(y:List Int) q,Tab.al [(0,some (Ent.arr E .int y))] q→q=0:=fun y q ⟨e,b⟩=>by
  rw[Qd] at b
  split at b
  ·assumption
  ·cases b
 rcases O with ⟨p,o,I⟩ | ⟨g,k,t,fps,p,o,H,hn,j,G,K⟩
 ·simp only[aD,and_true] at o
  subst I
  rw[o]
  refine Calls.mono (N w) fun e w' b=> ?_
  obtain ⟨rfl,C⟩:=b
  refine ⟨_,_,_,A,rfl,⟨rfl,rfl⟩,⟨fun q e b=> ?_,fun q J d s r=>absurd ((a _ q d).trans (a _ J s).symm) r,fun q d=> ?_,fun q d g i=> ?_,fun g i=>bq (u.nl g i) C.size⟩,⟨[],rfl,rfl⟩,
   ⟨C.grw,fun g i _=>Below.block C g i,fun g i=> .inl i,fun q d g i=> ?_⟩,fun q _ _=>rfl⟩
  ·rw[Qd] at b
   split at b
   ·rename_i z; subst z; cases b
    exact .inl ⟨p,by rw[o],by simp[VE]⟩
   ·cases b
  ·rw[a _ q d,p]; exact bL
  ·rw[a _ q d,p] at i; cases i
  ·rw[a _ q d,p] at i; cases i
 ·simp only[aD,and_true] at o
  rw[cr] at K
  obtain ⟨rfl,T,S⟩:=QcB K
  have i:g < w.heap.size:=(bA.1 H).1
  rw[o]
  have hm:xs.length≤9223372036854775807:=by unfold maxLen at j; omega
  refine Calls.mono (Q g k xs w (holds_of_blockI H T) i (by omega)) fun e w' b=> ?_
  obtain ⟨rfl,n,M,rfl⟩:=b
  obtain ⟨V,W,X,L,Y⟩:=grownBy_sortedI (w:=w) (g:=g) (n:=n) (os:=M) (VE xs).toArray
  have F:=Qcw xs
  refine ⟨_,_,_,A,rfl,⟨rfl,rfl⟩,⟨fun q e b=> ?_,fun q J d s r=>absurd ((a _ q d).trans (a _ J s).symm) r,fun q d=> ?_,fun q d m c=> ?_,fun m c=>bq (u.nl m c) L⟩,⟨[],rfl,rfl⟩,
   ⟨⟨V,W,X,L⟩,fun m B C=> ?_,fun m B=> .inl B,fun q d m c=> ?_⟩,fun q _ _=>rfl⟩
  ·rw[Qd] at b
   split at b
   ·rename_i z; subst z; cases b
    refine .inr ⟨g,k,_,[],p,by rw[o,F],heap_sortedI _ H,by omega,j,by simpa [Sort.putCells] using G, ?_⟩
    show OwnL (Own .int _) [] (List.take ((VE xs).length*1) _) (VE xs)
    rw[cr,take_putCellsI t (VE xs) (by have:t.size=k*1:=G; omega)]
    exact Qii fun x I=>S x (Qcx.1 I)
   ·cases b
  ·rw[a _ q d]; exact u.nd 0 ⟨_,rfl⟩
  ·rw[a _ q d] at c; exact u.no 0 ⟨_,rfl⟩ m c
  ·exact Y m B fun z=>C 0 ⟨_,rfl⟩ (by rw[p]; cases z; exact aw ..)
  ·rw[a _ q d] at c; exact .inr ⟨0,⟨_,rfl⟩,c⟩
end Go.Proofs.YtndabgcpnmeeoaaGreat
