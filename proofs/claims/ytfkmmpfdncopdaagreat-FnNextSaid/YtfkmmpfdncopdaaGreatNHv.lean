/- Walks over abstract states: the searches for a least cover, both sides. -/
import Derived.Test.YtfkmmpfdncopdaaGreatNHs
import Derived.Test.YtfkmmpfdncopdaaGreatNUa
import Derived.Test.YtfkmmpfdncopdaaGreatNDf
import Derived.Test.YtfkmmpfdncopdaaGreatNAt
import Derived.Test.YtfkmmpfdncopdaaGreatNWj
import Derived.Test.YtfkmmpfdncopdaaGreatNWt
set_option linter.unusedSimpArgs false
set_option linter.unusedVariables false
set_option linter.unusedSectionVars false
namespace Go.Proofs.YtfkmmpfdncopdaaGreat
open Go.RowKit
set_option maxRecDepth 100000
set_option maxHeartbeats 4000000
def ChP (ps on l:List ByteArray)(more:Int):Prop:=0≤more∧(l.length:Int)+more≤100∧(∀x∈l,x.size≤1000)∧on.length≤1000∧∀p∈ps,p.size≤1000∧∀c∈on,p.size≤c.size
section
variable {ps on l tk best:List ByteArray}{st:List ByteArray×Bool}{k:Nat}{more:Int}{c p x:ByteArray}{b:Bool}{f:ByteArray→Bool}
theorem ChP.next (h:ChP ps on l more)(hp:ps[k]? =some p)(hm:¬more=0):ChP ps (on.filter f) (l++[p]) (more - 1):=by
  obtain ⟨h1,h2,h3,h4,h5⟩:=h
  have hpm:=ap hp
  refine ⟨by omega,by rw[ai,cQ]; omega,QiJ h3 (h5 p hpm).1,bw (cB ..) h4,fun q hq=>⟨(h5 q hq).1,fun c hc=>(h5 q hq).2 c (bR.1 hc).1⟩⟩
theorem ChP.gd (h:ChP ps on l more):GdL l:=⟨by have:=h.1; have:=h.2.1; omega,h.2.2.1⟩
theorem ChP.gdS (h:ChP ps on l more):GdL (QY l):=⟨by rw[ZM]; exact h.gd.1,fun y hy=>h.2.2.1 y ((YG l).mem_iff.1 hy)⟩
theorem ChP.run (h:ChP ps on l more)(hG:GdL st.1):GdL (QE (leI ps more.toNat on l) st).1:=
  QiR GdL (QlF (fun p hp=>(h.2.2.2.2 p hp).1) more.toNat (by have:=h.1; have:=h.2.1; omega) h.2.2.1) hG
theorem QhC (h:(on.length:Int)=0):on=[]:=bB (by omega)
theorem Qpz (h:(on.length:Int)=0)(h1:((Q7 (QY l)).length:Int)=(l.length:Int))(hm:more=0):QE (leI ps more.toNat on l) st=upS st (QY l):=by
  subst hm
  rw[QaT (QhC h),lfI,if_pos ⟨by omega,rfl⟩]; rfl
theorem QpB (h:(on.length:Int)=0)(h1:((Q7 (QY l)).length:Int)=(l.length:Int))(hm:more=0)(hb:btB (QY l) st=true):QE (leI ps more.toNat on l) st=(QY l,true):=by
  rw[Qpz h h1 hm,upS,if_pos hb]
theorem Qpf (h:(on.length:Int)=0)(h1:((Q7 (QY l)).length:Int)=(l.length:Int))(hm:more=0)(hb:btB (QY l) st=false):QE (leI ps more.toNat on l) st=st:=by
  rw[Qpz h h1 hm,upS,if_neg (by rw[hb]; simp)]
theorem Qpo (h:(on.length:Int)=0)(h1:¬((Q7 (QY l)).length:Int)=(l.length:Int)):QE (leI ps more.toNat on l) st=st:=by
  rw[QaT (QhC h),lfI,if_neg fun g=>h1 (by rw[g.1])]; rfl
theorem Qpm (h0:0≤more)(h:(on.length:Int)=0)(hm:¬more=0):QE (leI ps more.toNat on l) st=st:=by
  rw[QaT (QhC h),lfI,if_neg fun g=>hm (by have:=g.2; omega)]; rfl
theorem Qpy (h:¬(on.length:Int)=0)(hm:more=0):QE (leI ps more.toNat on l) st=st:=by
  subst hm
  rw[show (0:Int).toNat=0 from rfl,QrJ fun g=>h (by rw[g]; rfl)]; rfl
theorem QrE (h0:0≤more)(hm:¬more=0)(hc:on[0]? =some c)(hk:ps.length≤k)(e:st=QE (chK ps on l more c k) (best,b)):QE (leI ps more.toNat on l) (best,b)=st:=by rw[← QoE hc (by omega) hk,e]
def hd0 (on:List ByteArray):ByteArray:=(on[0]?).getD ByteArray.empty
theorem QlR (h:on[0]? =some c):hd0 on=c:=by unfold hd0; rw[h]; rfl
theorem QtU (hp:ps[k]? =some p)(hc:on[0]? =some c)(h:QV p c=true)(e:st=QE (chK ps on l more (hd0 on) k) (best,b)):((QE (leI ps (more - 1).toNat (on.filter fun x=> !(QV p x)) (l++[p])) st).1,(QE (leI ps (more - 1).toNat (on.filter fun x=> !(QV p x)) (l++[p])) st).2)=QE (chK ps on l more (hd0 on) (k+1)) (best,b):=by
  rw[QlR hc] at e ⊢
  exact QrU hp h e
theorem Qtq (hp:ps[k]? =some p)(hc:on[0]? =some c)(h:QV p c=false)(e:st=QE (chK ps on l more (hd0 on) k) (best,b)):st=QE (chK ps on l more (hd0 on) (k+1)) (best,b):=by
  rw[QlR hc] at e ⊢
  rw[e,QrC hp h]
theorem Qlt (h0:0≤more)(hm:¬more=0)(ho:¬(on.length:Int)=0)(hk:ps.length≤k)(e:st=QE (chK ps on l more (hd0 on) k) (best,b)):QE (leI ps more.toNat on l) (best,b)=st:=by
  obtain ⟨c,hc⟩:∃c,on[0]? =some c:=⟨on[0]'(by omega),aa (by omega)⟩
  rw[QlR hc] at e
  exact QrE h0 hm hc hk e
theorem gd0:GdL []:=⟨by decide,fun x hx=>by cases hx⟩
end
theorem Y5 (code:ByteArray)(cube:ByteArray)(hl:cube.size≤code.size):FC Tryz.prog 313 [(false,[dS code]),(false,[.ptr 0 0])] [bx 0 9 [dS cube]] 1 (Is (lB (QV cube code)) [bx 0 9 [dS cube]]):=by
 refine Ql Tryz.func313 rfl rfl Tryz.ntmps313 fun O_ hO w0_ N0_ X_ h0_ f0_=> ?_
 iterate 6 refine w_ ?_
 refine lc (dK (YS cube code hl) V3) ?_
 iterate 2 refine w_ ?_
 refine Qb ?_
 exact fi_ [] hO ⟨rfl,trivial⟩
theorem VD (l:List ByteArray)(cube:ByteArray)(hl:l.length≤1000000)(hq:∀c∈l,cube.size≤c.size):FC Tryz.prog 160 [(false,[.ref 1]),(false,[.clo 313 [0]])] [bx 0 9 [dS cube],ar 1 9 .str l] 2 (Is (lI (Q4 (fun x=>QV cube x) l)) [bx 0 9 [dS cube],ar 1 9 .str l]):=by
 refine Ql Tryz.func160 rfl rfl Tryz.ntmps160 fun O_ hO w0_ N0_ X_ h0_ f0_=> ?_
 iterate 10 refine w_ ?_
 refine lpK l.length (fun k=>NoneTo (fun x=>QV cube x) l k) (fun k=>⟨[(0,lR 1),(1,lf (.clo 313 [0])),(7,lI (l.length:Int)),(8,lI (k:Int))],[bx 0 9 [dS cube],ar 1 9 .str l]⟩) (NoneTo.zero) ?_ fun k hk1 hno=> ?_
 · exact Wk.of [] rfl ⟨rfl,rfl,rfl,rfl,trivial⟩ ⟨rfl,rfl,trivial⟩ rfl rfl
 iterate 4 refine w_ ?_
 cases hb2:(decide ((k:Int) < (l.length:Int)))
 ·have hb2':=ab hb2
  refine w_ ?_
  refine Qj ?_
  refine (?_:AC _ _ _ _ _)
  iterate 3 refine w_ ?_
  refine Qb ?_
  have e3:((-1):Int)=(Q4 (fun x=>QV cube x) l):=by
   first | exact (hno.no (by omega)).symm
  exact fi_ [] hO ⟨rfl,rfl,trivial⟩ (h0:=(congrArg (fun z_=>lI z_) e3))
 ·have hb2':=ae hb2
  iterate 13 refine w_ ?_
  obtain ⟨x4,hx5⟩:∃z,l[k]? =some z:=⟨_,aa (by omega)⟩
  refine w_ ?_
  refine lc (Zk (args0:=[(false,[dS x4])]) (caps:=[0]) 2 [(0,0)] (Y5 x4 cube (hq _ (ap hx5))) Qbe rfl (Qa rfl) rfl rfl ⟨_,_,rfl,(Qm rfl),rfl⟩ ⟨rfl,trivial⟩ rfl ⟨trivial,trivial⟩ (nlr rfl)) ?_
  refine w_ ?_
  cases hb6:(QV cube x4)
  ·refine w_ ?_
   refine AC.skip ?_
   refine (?_:AC _ _ _ _ _)
   iterate 3 refine w_ ?_
   refine Qd ?_
   refine lK_ (hno.step hx5 (by assumption)) ?_
   exact Wk.of [] rfl ⟨rfl,rfl,rfl,rfl,trivial⟩ ⟨rfl,rfl,trivial⟩ rfl rfl
  ·iterate 5 refine w_ ?_
   refine Qb ?_
   have e7:((k:Int):Int)=(Q4 (fun x=>QV cube x) l):=by
    exact (hno.at hx5 (by assumption)).symm
   exact fi_ [] hO ⟨rfl,rfl,trivial⟩ (h0:=(congrArg (fun z_=>lI z_) e7))
theorem W7 (l:List ByteArray)(cube:ByteArray)(hl:l.length≤1000000)(hq:∀c∈l,cube.size≤c.size):FC Tryz.prog 63 [(false,[.ref 1]),(false,[.clo 313 [0]])] [bx 0 9 [dS cube],ar 1 9 .str l] 1 (Is (lR 2) [bx 0 9 [dS cube],ar 2 9 .str (l.filter (fun x=> !(QV cube x)))]):=by
 have hix:=Qfr (fun x=>QV cube x) l
 refine Ql Tryz.func63 rfl rfl Tryz.ntmps63 fun O_ hO w0_ N0_ X_ h0_ f0_=> ?_
 iterate 6 refine w_ ?_
 refine lc (dP 2 [] (VD l cube hl hq) XE) ?_
 iterate 7 refine w_ ?_
 refine cd_ (fun hb1 hb1'=> ?_) fun hb1 hb1'=> ?_
 ·iterate 8 refine w_ ?_
  refine Qy (fun m_ s_=>∃(i:Int) (j:Int) (l2:List ByteArray),m_=((l2.length:Int) - j).toNat∧(DelI (fun x=> !(QV cube x)) l l2 i j)∧s_=⟨[(0,lR 4),(1,lf (.clo 313 [0])),(4,lf (.val (.slice none 0 0))),(5,lI i),(6,lI j)],[bx 0 9 [dS cube],ar 4 9 .str l2]⟩) ⟨Q4 (fun x=>QV cube x) l,(Q4 (fun x=>QV cube x) l)+1,l,rfl,(DelI.start (by assumption)),rfl⟩ ?_ ?_
  · exact Wk.of [(4,1)] rfl ⟨rfl,rfl,rfl,rfl,rfl,trivial⟩ ⟨rfl,rfl,trivial⟩ rfl rfl
  rintro m_ s_ ⟨i,j,l2,hm3,hD,rfl⟩
  have hDb:=hD.1
  have hDl:=hD.2.1
  iterate 7 refine w_ ?_
  cases hb4:(decide (j < (l2.length:Int)))
  ·have hb4':=ab hb4
   refine w_ ?_
   refine Qj ?_
   refine (?_:AC _ _ _ _ _)
   iterate 3 refine w_ ?_
   refine lc (Zo (e:= .str) (a:=(i).toNat) (b:=l2.length - (i).toNat) (l:=(some i)) (h:=none) (Qa rfl) rfl (by exact (Qa rfl)) (by exact trivial) Zd ZH rfl (by first | (simp only[ak,aj]; omega) | omega | (simp only[ak,aj,ai,aq,aA]; omega)) (by first | (simp only[ak,aj]; omega) | omega | (simp only[ak,aj,ai,aq,aA]; omega)) (by first | (simp only[ak,aj]; omega) | omega | (simp only[ak,aj,ai,aq,aA]; omega)) (by first | rfl | simp) (by first | rfl | simp))<|lc (Uz (e:= .str) (Qa rfl) rfl (by omega) Zd Yb rfl rfl rfl) ?_
   iterate 4 refine w_ ?_
   refine lc (Zo (e:= .str) (a:=0) (b:=(i).toNat) (l:=none) (h:=(some i)) (Qa rfl) rfl (by exact trivial) (by exact (Qa rfl)) Zd ZH rfl (by first | (simp only[ak,aj]; omega) | omega | (simp only[ak,aj,ai,aq,aA]; omega)) (by first | (simp only[ak,aj]; omega) | omega | (simp only[ak,aj,ai,aq,aA]; omega)) (by first | (simp only[ak,aj]; omega) | omega | (simp only[ak,aj,ai,aq,aA]; omega)) (by first | rfl | simp) (by first | rfl | simp)) ?_
   iterate 2 refine w_ ?_
   refine AC.wk (KH 5 4 (e:= .str) (xs:=l2.take ((i).toNat)++List.replicate (l2.length - (i).toNat) (Ty.zero .str)) rfl rfl (by first | omega | (simp only[ai,aq,aA]; omega)) rfl (Fresh.of rfl) (nlr rfl))<|Qb ?_
   exact fi_ [(2,5)] hO ⟨rfl,(Qn (by exact hD.end_ (by assumption) _ (by omega))),trivial⟩
  ·have hb4':=ae hb4
   iterate 8 refine w_ ?_
   obtain ⟨xj,hx6⟩:∃z,l2[(j).toNat]? =some z:=⟨_,aa (by omega)⟩
   iterate 6 refine w_ ?_
   refine lc (Zk (args0:=[(false,[dS xj])]) (caps:=[0]) 6 [(0,0)] (Y5 xj cube (hq _ (ap (hD.at_ (x:=xj) (by assumption))))) Qbe rfl (Qa rfl) rfl rfl ⟨_,_,rfl,(Qm rfl),rfl⟩ ⟨rfl,trivial⟩ rfl ⟨trivial,trivial⟩ (nlr rfl)) ?_
   iterate 2 refine w_ ?_
   cases hb7:(QV cube xj)
   ·iterate 6 refine w_ ?_
    obtain ⟨x8,hx9⟩:∃z,l2[(i).toNat]? =some z:=⟨_,aa (by omega)⟩
    refine lc (Qs (e:= .str) (z':=xj) (Qa rfl) rfl hx9 rfl (Qm rfl) rfl ZH rfl rfl) ?_
    iterate 5 refine w_ ?_
    refine Qd ?_
    refine (?_:AC _ _ _ _ _)
    iterate 4 refine w_ ?_
    refine Qd<|Q0 ⟨(i+1),(j+1),(l2.set ((i).toNat) xj),rfl,(by exact hD.keep (x:=xj) (by assumption) (by simp[*])),rfl⟩ (by first | omega | (simp only[aD]; omega)) ?_
    exact Wk.of [] rfl ⟨rfl,rfl,rfl,rfl,rfl,trivial⟩ ⟨rfl,(Qn (by first | rfl | simp)),trivial⟩ rfl rfl
   ·refine w_ ?_
    refine AC.skip ?_
    refine (?_:AC _ _ _ _ _)
    iterate 4 refine w_ ?_
    refine Qd<|Q0 ⟨i,(j+1),l2,rfl,(by exact hD.drop_ (x:=xj) (by assumption) (by simp[*])),rfl⟩ (by first | omega | (simp only[aD]; omega)) ?_
    exact Wk.of [] rfl ⟨rfl,rfl,rfl,rfl,rfl,trivial⟩ ⟨rfl,rfl,trivial⟩ rfl rfl
 ·iterate 4 refine w_ ?_
  refine Qb ?_
  exact fi_ [(2,1)] hO ⟨rfl,(Qn (by exact Qaa (by assumption))),trivial⟩
theorem VY (s:List ByteArray)(hl:s.length≤100000000):FC Tryz.prog 311 [(false,[.dat (.sl 9 .str) s])] [] 0 (WC 9 .str s):=by
 refine Ql Tryz.func311 rfl rfl Tryz.ntmps311 fun O_ hO w0_ N0_ X_ h0_ f0_=> ?_
 iterate 6 refine w_ ?_
 refine QmC (Qa rfl) Evl.val Zd rfl fun b1 hnil=> ?_
 refine w_ ?_
 refine cb_ (fun hb2=> ?_) fun hb2=> ?_
 ·iterate 2 refine w_ ?_
  refine lc (dBs 0 (e:= .str) Yb) ?_
  refine w_ ?_
  refine lc (Za 1 (Qa rfl) rfl (Evl.rep (Qa rfl)) rfl Zd Y6 (by first | omega | (simp only[ai,aP,aq,au,aF]; omega) | (simp only[ai,bd,aq,au,aF]; omega)) rfl (Fresh.of rfl) (nlr rfl)) ?_
  iterate 2 refine w_ ?_
  refine Qb<|fo_ hO ?_
  rfl
 ·iterate 3 refine w_ ?_
  refine AC.wk (Wk.nilS 2 2 9 .str rfl (Fresh.of rfl) (nlr rfl))<|Qb<|fo_ hO ?_
  exact (hnil (by assumption)).symm
theorem W2 {N_:Nat}(ih_:∀(list:List ByteArray) (best:List ByteArray) (found:Bool) (on:List ByteArray) (l:List ByteArray) (more:Int) (hP:ChP list on l more) (hb:GdL best) (_:more.toNat < N_),FC Tryz.prog 255 [(false,[.ptr 0 0]),(false,[.dat (.sl 9 .str) on]),(false,[.dat (.sl 9 .str) l]),(false,[dI more])] [bx 0 264 [.dat (.sl 9 .str) list, .dat (.sl 9 .str) best,dB found]] 1 (Is (PV.tup []) [bx 0 264 [.dat (.sl 9 .str) list, .dat (.sl 9 .str) ((QE (leI list more.toNat on l) (best,found)).1),dB ((QE (leI list more.toNat on l) (best,found)).2)]]))(list:List ByteArray)(best:List ByteArray)(found:Bool)(on:List ByteArray)(l:List ByteArray)(more:Int)(hP:ChP list on l more)(hb:GdL best)(hN_:more.toNat=N_):FC Tryz.prog 255 [(false,[.ptr 0 0]),(false,[.dat (.sl 9 .str) on]),(false,[.dat (.sl 9 .str) l]),(false,[dI more])] [bx 0 264 [.dat (.sl 9 .str) list, .dat (.sl 9 .str) best,dB found]] 1 (Is (PV.tup []) [bx 0 264 [.dat (.sl 9 .str) list, .dat (.sl 9 .str) ((QE (leI list more.toNat on l) (best,found)).1),dB ((QE (leI list more.toNat on l) (best,found)).2)]]):=by
 have hP1:=hP.1
 have hP2:=hP.2.1
 have hP4:=hP.2.2.2.1
 refine Ql Tryz.func255 rfl rfl Tryz.ntmps255 fun O_ hO w0_ N0_ X_ h0_ f0_=> ?_
 refine acI 3 fun hi1=> ?_
 iterate 3 refine w_ ?_
 refine alL 12 fun hl2=> ?_
 iterate 3 refine w_ ?_
 refine cd_ (fun hb3 hb3'=> ?_) fun hb3 hb3'=> ?_
 ·iterate 6 refine w_ ?_
  refine cd_ (fun hb4 hb4'=> ?_) fun hb4 hb4'=> ?_
  ·iterate 6 refine w_ ?_
   refine alL 47 fun hl5=> ?_
   iterate 4 refine w_ ?_
   refine Qy (fun m_ s_=>∃(k:Nat) (b_:List ByteArray) (f_:Bool),k≤list.length∧m_=list.length - k∧((b_,f_)=QE (chK list on l more (hd0 on) k) (best,found))∧(GdL b_)∧s_=⟨[(0,lP 0 0),(1,lf (.dat (.sl 9 .str) on)),(2,lf (.dat (.sl 9 .str) l)),(3,lI more),(47,lf (.dat (.sl 9 .str) list)),(48,lI (list.length:Int)),(49,lI (k:Int))],[bx 0 264 [.dat (.sl 9 .str) list, .dat (.sl 9 .str) b_,dB f_]]⟩) ⟨0,best,found,aR _,rfl,rfl,hb,rfl⟩ ?_ ?_
   · exact Wk.of [] rfl ⟨rfl,rfl,rfl,rfl,rfl,rfl,rfl,trivial⟩ ⟨rfl,trivial⟩ rfl rfl
   rintro m_ s_ ⟨k,b_,f_,hk6,hm7,hA,hG,rfl⟩
   iterate 4 refine w_ ?_
   cases hb8:(decide ((k:Int) < (list.length:Int)))
   ·have hb8':=ab hb8
    refine w_ ?_
    refine Qj ?_
    refine (?_:fin _ _ _ _ .normal _)
    exact fi_ [] hO ⟨(((congrArg (fun z_=>some (Ent.box 264 [.dat (.sl 9 .str) list, .dat (.sl 9 .str) z_,dB f_])) (show (b_:((.sl 9 .str):Ty).Den)=((QE (leI list more.toNat on l) (best,found)).1) by exact (congrArg Prod.fst (Qlt (st:=(b_,f_)) hP.1 (by assumption) (by assumption) (by omega) hA)).symm))).trans (congrArg (fun z_=>some (Ent.box 264 [.dat (.sl 9 .str) list, .dat (.sl 9 .str) ((QE (leI list more.toNat on l) (best,found)).1),dB z_])) (show (f_:Bool)=((QE (leI list more.toNat on l) (best,found)).2) by exact (congrArg Prod.snd (Qlt (st:=(b_,f_)) hP.1 (by assumption) (by assumption) (by omega) hA)).symm))),trivial⟩
   ·have hb8':=ae hb8
    iterate 5 refine w_ ?_
    obtain ⟨cb,hx10⟩:∃z,list[k]? =some z:=⟨_,aa (by omega)⟩
    have hcb:=hx10
    iterate 2 refine w_ ?_
    refine lc (xal 1 .str Yb) ?_
    iterate 2 refine w_ ?_
    obtain ⟨c0,hx12⟩:∃z,on[0]? =some z:=⟨_,aa (by omega)⟩
    have hc0:=hx12
    apply dW (i4 53 _ _ _ _ [io 57 (lB (QV cb c0))]) [0,1,1,1,0]
    iterate 4 refine z_ ?_
    refine zz (fun _ h_=>ac (dK (YS cb c0 ((hP.2.2.2.2 _ (ap hcb)).2 _ (ap hc0))) V3) rfl) ?_
    exact zN
    cases hb13:(QV cb c0)
    ·refine w_ ?_
     refine AC.skip ?_
     refine (?_:AC _ _ _ _ _)
     iterate 3 refine w_ ?_
     refine Qd<|Q0 ⟨k+1,b_,f_,by omega,rfl,(by exact Qtq hcb hc0 (by assumption) hA),(by exact hG),rfl⟩ (by omega) ?_
     exact Wk.of [] rfl ⟨rfl,rfl,rfl,rfl,rfl,rfl,rfl,trivial⟩ ⟨rfl,trivial⟩ rfl rfl
    ·iterate 3 refine w_ ?_
     refine lc (dO 2 (VY on (by first | omega | (rw[ZM]; omega))) KX) ?_
     refine lc (Zj ⟨_,_,rfl,(Qa rfl),rfl,rfl⟩ rfl) ?_
     refine lc (dP 3 [(0,1),(1,2)] (W7 on cb (by omega) ((hP.2.2.2.2 _ (ap hcb)).2)) Qdh) ?_
     iterate 2 refine w_ ?_
     refine AC.wk (Wk.freeze (i:=11) (q:=5) rfl rfl) ?_
     apply dV (i7 62 _ _ _ _ _ _ _ [⟨some 69,lR 6,[(6,some (.res (clR 9 .str l)))]⟩,io 70 (lf (dS cb)),⟨some 71,lR 7,[ar 7 9 .str ([cb])]⟩,⟨some 72,lf (.dat (.sl 9 .str) (l++([cb]))),[(6,none)]⟩,io 73 (lI more),io 74 (lI (more - 1)),⟨some 75,PV.tup [],[bx 0 264 [.dat (.sl 9 .str) list, .dat (.sl 9 .str) ((QE (leI list (more - 1).toNat (on.filter (fun x=> !(QV cb x))) (l++([cb]))) (b_,f_)).1),dB ((QE (leI list (more - 1).toNat (on.filter (fun x=> !(QV cb x))) (l++([cb]))) (b_,f_)).2)],(0,none)]⟩]) [0,1,3,7,7,31,31,3,255,255,3,2047,2047,0]
     iterate 7 refine z_ ?_
     refine zz (fun _ h_=>ac (QfS 6 (n:=(l.length:Int)) (h_.v rfl) (by exact (h_.v rfl)) (by exact (h_.v rfl)) Zd ZH (by first | rfl | omega) rfl (h_.fr 6 rfl) (nlr rfl)) rfl) ?_
     refine z_ ?_
     refine zz (fun _ h_=>ac (dBs 7 (e:= .str) Yb) rfl) ?_
     refine zz (fun _ h_=>ac (QcS 8 (h_.v rfl) (h_.en 6 rfl) (Qch (h_.v rfl) (h_.en 7 rfl)) rfl (by simp) Zd Y6 (by first | omega | (simp only[ai,aP,aq,au,aF]; omega) | (simp only[ai,bd,aq,au,aF]; omega)) rfl (h_.fr 8 rfl) (nlr rfl)) rfl) ?_
     iterate 2 refine z_ ?_
     refine zz (fun _ h_=>ac (dP 9 [] (ih_ list b_ f_ (on.filter (fun x=> !(QV cb x))) (l++([cb])) (more - 1) (hP.next hcb (by assumption)) hG (by omega)) Qbh) rfl) ?_
     exact zN
     refine (?_:AC _ _ _ _ _)
     iterate 3 refine w_ ?_
     refine Qd<|Q0 ⟨k+1,((QE (leI list (more - 1).toNat (on.filter (fun x=> !(QV cb x))) (l++([cb]))) (b_,f_)).1),((QE (leI list (more - 1).toNat (on.filter (fun x=> !(QV cb x))) (l++([cb]))) (b_,f_)).2),by omega,rfl,(by exact QtU hcb hc0 (by assumption) hA),(by exact (hP.next hcb (by assumption)).run (st:=(b_,f_)) hG),rfl⟩ (by omega) ?_
     exact Wk.of [] rfl ⟨rfl,rfl,rfl,rfl,rfl,rfl,rfl,trivial⟩ ⟨rfl,trivial⟩ rfl rfl
  ·refine Qb ?_
   exact fi_ [] hO ⟨(((congrArg (fun z_=>some (Ent.box 264 [.dat (.sl 9 .str) list, .dat (.sl 9 .str) z_,dB found])) (show (best:((.sl 9 .str):Ty).Den)=((QE (leI list more.toNat on l) (best,found)).1) by exact (congrArg Prod.fst (Qpy (st:=(best,found)) (by assumption) (by assumption))).symm))).trans (congrArg (fun z_=>some (Ent.box 264 [.dat (.sl 9 .str) list, .dat (.sl 9 .str) ((QE (leI list more.toNat on l) (best,found)).1),dB z_])) (show (found:Bool)=((QE (leI list more.toNat on l) (best,found)).2) by exact (congrArg Prod.snd (Qpy (st:=(best,found)) (by assumption) (by assumption))).symm))),trivial⟩
 ·iterate 2 refine w_ ?_
  refine lc (dO 10 (VY l (by first | omega | (rw[ZM]; omega))) KX) ?_
  iterate 4 refine w_ ?_
  refine lc (dP 11 [(0,10)] (Uq l (by omega)) Wm) ?_
  iterate 4 refine w_ ?_
  refine lc (dOB 12 (VY (QY l) (by first | omega | (rw[ZM]; omega))) KX) ?_
  refine lc (dP 13 [(0,12)] (QU (QY l) (by first | omega | (rw[ZM]; omega))) Wz) ?_
  refine w_ ?_
  refine AL.wk (Wk.freeze (i:=8) (q:=10) rfl rfl) ?_
  refine w_ ?_
  refine alL 23 fun hl14=> ?_
  iterate 3 refine w_ ?_
  cases hb15:(decide (((Q7 (QY l)).length:Int)=(l.length:Int)))
  ·have hb15':=ab hb15
   iterate 11 refine w_ ?_
   refine Qb ?_
   exact fi_ [] hO ⟨(((congrArg (fun z_=>some (Ent.box 264 [.dat (.sl 9 .str) list, .dat (.sl 9 .str) z_,dB found])) (show (best:((.sl 9 .str):Ty).Den)=((QE (leI list more.toNat on l) (best,found)).1) by exact (congrArg Prod.fst (Qpo (st:=(best,found)) (by assumption) (by assumption))).symm))).trans (congrArg (fun z_=>some (Ent.box 264 [.dat (.sl 9 .str) list, .dat (.sl 9 .str) ((QE (leI list more.toNat on l) (best,found)).1),dB z_])) (show (found:Bool)=((QE (leI list more.toNat on l) (best,found)).2) by exact (congrArg Prod.snd (Qpo (st:=(best,found)) (by assumption) (by assumption))).symm))),trivial⟩
  ·have hb15':=ae hb15
   iterate 4 refine w_ ?_
   cases hb16:(decide (more=0))
   ·have hb16':=ab hb16
    iterate 7 refine w_ ?_
    refine Qb ?_
    exact fi_ [] hO ⟨(((congrArg (fun z_=>some (Ent.box 264 [.dat (.sl 9 .str) list, .dat (.sl 9 .str) z_,dB found])) (show (best:((.sl 9 .str):Ty).Den)=((QE (leI list more.toNat on l) (best,found)).1) by exact (congrArg Prod.fst (Qpm (st:=(best,found)) hP.1 (by assumption) (by assumption))).symm))).trans (congrArg (fun z_=>some (Ent.box 264 [.dat (.sl 9 .str) list, .dat (.sl 9 .str) ((QE (leI list more.toNat on l) (best,found)).1),dB z_])) (show (found:Bool)=((QE (leI list more.toNat on l) (best,found)).2) by exact (congrArg Prod.snd (Qpm (st:=(best,found)) hP.1 (by assumption) (by assumption))).symm))),trivial⟩
   ·have hb16':=ae hb16
    iterate 2 refine w_ ?_
    refine lgy rfl rfl (dP 14 [] (WY list best found (QY l) hP.gdS hb) QgH) ?_
    iterate 2 refine w_ ?_
    refine cb_ (fun hb17=> ?_) fun hb17=> ?_
    ·refine w_ ?_
     refine Qb ?_
     exact fi_ [] hO ⟨(((congrArg (fun z_=>some (Ent.box 264 [.dat (.sl 9 .str) list, .dat (.sl 9 .str) z_,dB found])) (show (best:((.sl 9 .str):Ty).Den)=((QE (leI list more.toNat on l) (best,found)).1) by exact (congrArg Prod.fst (Qpf (st:=(best,found)) (by assumption) (by assumption) (by assumption) (by assumption))).symm))).trans (congrArg (fun z_=>some (Ent.box 264 [.dat (.sl 9 .str) list, .dat (.sl 9 .str) ((QE (leI list more.toNat on l) (best,found)).1),dB z_])) (show (found:Bool)=((QE (leI list more.toNat on l) (best,found)).2) by exact (congrArg Prod.snd (Qpf (st:=(best,found)) (by assumption) (by assumption) (by assumption) (by assumption))).symm))),trivial⟩
    ·iterate 11 refine w_ ?_
     refine Qb ?_
     exact fi_ [] hO ⟨(((congrArg (fun z_=>some (Ent.box 264 [.dat (.sl 9 .str) list, .dat (.sl 9 .str) z_,dB true])) (show (QY l:((.sl 9 .str):Ty).Den)=((QE (leI list more.toNat on l) (best,found)).1) by exact (congrArg Prod.fst (QpB (st:=(best,found)) (by assumption) (by assumption) (by assumption) (by assumption))).symm))).trans (congrArg (fun z_=>some (Ent.box 264 [.dat (.sl 9 .str) list, .dat (.sl 9 .str) ((QE (leI list more.toNat on l) (best,found)).1),dB z_])) (show (true:Bool)=((QE (leI list more.toNat on l) (best,found)).2) by exact (congrArg Prod.snd (QpB (st:=(best,found)) (by assumption) (by assumption) (by assumption) (by assumption))).symm))),trivial⟩
theorem VO (list:List ByteArray)(best:List ByteArray)(found:Bool)(on:List ByteArray)(l:List ByteArray)(more:Int)(hP:ChP list on l more)(hb:GdL best):FC Tryz.prog 255 [(false,[.ptr 0 0]),(false,[.dat (.sl 9 .str) on]),(false,[.dat (.sl 9 .str) l]),(false,[dI more])] [bx 0 264 [.dat (.sl 9 .str) list, .dat (.sl 9 .str) best,dB found]] 1 (Is (PV.tup []) [bx 0 264 [.dat (.sl 9 .str) list, .dat (.sl 9 .str) ((QE (leI list more.toNat on l) (best,found)).1),dB ((QE (leI list more.toNat on l) (best,found)).2)]]):=by
 have H:∀(N_:Nat) (list:List ByteArray) (best:List ByteArray) (found:Bool) (on:List ByteArray) (l:List ByteArray) (more:Int) (hP:ChP list on l more) (hb:GdL best) (_:more.toNat=N_),FC Tryz.prog 255 [(false,[.ptr 0 0]),(false,[.dat (.sl 9 .str) on]),(false,[.dat (.sl 9 .str) l]),(false,[dI more])] [bx 0 264 [.dat (.sl 9 .str) list, .dat (.sl 9 .str) best,dB found]] 1 (Is (PV.tup []) [bx 0 264 [.dat (.sl 9 .str) list, .dat (.sl 9 .str) ((QE (leI list more.toNat on l) (best,found)).1),dB ((QE (leI list more.toNat on l) (best,found)).2)]]):=fun N_=>Nat.strongRecOn N_ fun N_ ih_=>fun list best found on l more hP hb hN_=>W2 (fun list best found on l more hP hb h_=>ih_ _ h_ list best found on l more hP hb rfl) list best found on l more hP hb hN_
 exact H _ list best found on l more hP hb rfl
def mnV (n:Int)(on off:List ByteArray):List ByteArray×Bool:=if ((QL n on off).length:Int)≤60 then fmV (Qal (QL n on off) on) 7 0 else ([],false)
section
variable {n:Int}{on off ps:List ByteArray}{k:Nat}{q:Int}
theorem QqU (h:((QL n on off).length:Int)≤60):mnV n on off=fmV (Qal (QL n on off) on) 7 0:=if_pos h
theorem Qp3 (h:¬((QL n on off).length:Int)≤60):mnV n on off=([],false):=if_neg h
theorem Qpv (hn:0≤n∧n≤8)(h1:∀c∈on,(c.size:Int)=n):∀p∈QL n on off,p.size≤1000∧∀c∈on,p.size≤c.size:=fun p hp=>by
  have hm:=(bR.1 hp).1
  have hs:=YE hm
  exact ⟨by omega,fun c hc=>by have:=h1 c hc; omega⟩
theorem ch0 (hn:0≤n∧n≤8)(h1:∀c∈on,(c.size:Int)=n)(ho:on.length≤1000)(hk:k < 7):ChP (QL n on off) on [] (k:Int):=
  ⟨by omega,by rw[aF]; omega,fun x hx=>by (cases hx),ho,Qpv hn h1⟩
theorem mnA (h:((QL n on off).length:Int)≤60)(hF:∀j,j < k→(Qal (QL n on off) on j).2=false)(hk:k < 7)(hm:(Qal (QL n on off) on k).2=true):Qal (QL n on off) on k=mnV n on off:=by
  rw[QqU h]
  have:=Qhv (f:=Qal (QL n on off) on) 7 0 k hk (fun j hj=>by rw[bn]; exact hF j hj) (by rw[bn]; exact hm)
  rw[this,bn]
theorem mnB (h:((QL n on off).length:Int)≤60)(hF:∀j,j < k→(Qal (QL n on off) on j).2=false)(hk:7≤k):([],false)=mnV n on off:=by
  rw[QqU h]
  exact (Qh6 7 0 fun j hj=>by rw[bn]; exact hF j (by omega)).symm
theorem QoV {f:Nat→List ByteArray×Bool}(hF:∀j,j < k→(f j).2=false)(h:(f k).2=false):∀j,j < k+1→(f j).2=false:=fun j hj=>by
  by_cases e:j=k
  · subst e; exact h
  · exact hF j (by omega)
end
theorem Qak (n:Int)(on:List ByteArray)(off:List ByteArray)(hn:0≤n∧n≤8)(h1:∀c∈on,(c.size:Int)=n)(h2:∀c∈off,(c.size:Int)=n)(ho:on.length≤1000):FC Tryz.prog 181 [(false,[dI n]),(false,[.dat (.sl 9 .str) on]),(false,[.dat (.sl 9 .str) off])] [] 0 (QH (PV.tup [(false,[.dat (.sl 9 .str) ((mnV n on off).1)]),(false,[dB ((mnV n on off).2)])])):=by
 refine Ql Tryz.func181 rfl rfl Tryz.ntmps181 fun O_ hO w0_ N0_ X_ h0_ f0_=> ?_
 refine acI 0 fun hi1=> ?_
 iterate 8 refine w_ ?_
 refine lc (dK (Qb6 n on off hn h1 h2).frozenG QhE) ?_
 iterate 11 refine w_ ?_
 cases hb2:(decide (((QL n on off).length:Int)≤60))
 ·have hb2':=ab hb2
  iterate 5 refine w_ ?_
  refine AC.wk (VN (i:=6) 9 .str rfl)<|Qb ?_
  have e3:([]:((.sl 9 .str):Ty).Den)=((mnV n on off).1):=by
   exact congrArg Prod.fst ((Qp3 (by assumption)).symm)
  have e4:(false:Bool)=((mnV n on off).2):=by
   exact congrArg Prod.snd ((Qp3 (by assumption)).symm)
  exact fr_ hO (e:=((congrArg (fun z_=>PV.tup [(false,[.dat (.sl 9 .str) z_]),(false,[dB false])]) e3)).trans (congrArg (fun z_=>PV.tup [(false,[.dat (.sl 9 .str) ((mnV n on off).1)]),(false,[dB z_])]) e4))
 ·have hb2':=ae hb2
  iterate 7 refine w_ ?_
  refine lpK 7 (fun k=>∀j,j < k→(Qal (QL n on off) on j).2=false) (fun k=>⟨[(1,lf (.dat (.sl 9 .str) on)),(8,lf (.dat (.sl 9 .str) (QL n on off))),(21,lI (k:Int))],[]⟩) ((fun j hj=>absurd hj (b8 j))) ?_ fun k hk5 hF=> ?_
  · exact Wk.of [] rfl ⟨rfl,rfl,rfl,trivial⟩ trivial rfl rfl
  iterate 4 refine w_ ?_
  cases hb6:(decide ((k:Int) < 7))
  ·have hb6':=ab hb6
   refine w_ ?_
   refine Qj ?_
   refine (?_:AC _ _ _ _ _)
   iterate 4 refine w_ ?_
   refine AC.wk (VN (i:=6) 9 .str rfl)<|Qb ?_
   have e7:([]:((.sl 9 .str):Ty).Den)=((mnV n on off).1):=by
    exact congrArg Prod.fst (mnB (by assumption:((QL n on off).length:Int)≤60) hF (by omega))
   have e8:(false:Bool)=((mnV n on off).2):=by
    exact congrArg Prod.snd (mnB (by assumption:((QL n on off).length:Int)≤60) hF (by omega))
   exact fr_ hO (e:=((congrArg (fun z_=>PV.tup [(false,[.dat (.sl 9 .str) z_]),(false,[dB false])]) e7)).trans (congrArg (fun z_=>PV.tup [(false,[.dat (.sl 9 .str) ((mnV n on off).1)]),(false,[dB z_])]) e8))
  ·have hb6':=ae hb6
   iterate 10 refine w_ ?_
   refine lc (Qp Qo4 ⟨_,_,rfl,(Qm rfl),rfl⟩ (aB.1 rfl) rfl rfl) ?_
   refine xbx 0 ?_
   iterate 2 refine w_ ?_
   refine ZS<|AC.wk (U4 (p:=0) [.dat (.sl 9 .str) (QL n on off), .dat (.sl 9 .str) ([]),dB false] rfl ⟨_,_,rfl, .inl rfl,⟨_,_,rfl, .inr ⟨_,_,rfl,rfl⟩,⟨_,_,rfl, .inl rfl,rfl⟩⟩⟩) ?_
   iterate 4 refine w_ ?_
   refine lc (KU 1 [(0,0)] (VO (QL n on off) ([]) false on ([]:((.sl 9 .str):Ty).Den) (k:Int) (ch0 hn h1 ho (by omega)) gd0) Qbh ⟨_,_,rfl,(Qm rfl),⟨_,_,rfl,(Qm rfl),⟨_,_,rfl,(Evl.ev Evl.nil),⟨_,_,rfl,(Qm rfl),rfl⟩⟩⟩⟩ ⟨rfl,trivial⟩ rfl ⟨trivial,trivial⟩ (nlr rfl)) ?_
   iterate 7 refine w_ ?_
   cases hb9:(((QE (leI (QL n on off) (k:Int).toNat on ([]:((.sl 9 .str):Ty).Den)) (([]),false)).2))
   ·refine w_ ?_
    refine AC.skip ?_
    refine (?_:AC _ _ _ _ _)
    iterate 3 refine w_ ?_
    refine Qd ?_
    refine lK_ ((QoV hF (by assumption))) ?_
    exact Wk.of [] rfl ⟨rfl,rfl,rfl,trivial⟩ trivial rfl rfl
   ·iterate 9 refine w_ ?_
    refine Qb ?_
    have e10:(((QE (leI (QL n on off) (k:Int).toNat on ([]:((.sl 9 .str):Ty).Den)) (([]),false)).1):((.sl 9 .str):Ty).Den)=((mnV n on off).1):=by
     exact congrArg Prod.fst (mnA (by assumption:((QL n on off).length:Int)≤60) hF (by omega) (by assumption))
    have e11:(true:Bool)=((mnV n on off).2):=by
     ((rw[← mnA (by assumption:((QL n on off).length:Int)≤60) hF (by omega) (by assumption)]); exact (by assumption:(Qal _ _ _).2=true).symm)
    exact fr_ hO (e:=((congrArg (fun z_=>PV.tup [(false,[.dat (.sl 9 .str) z_]),(false,[dB true])]) e10)).trans (congrArg (fun z_=>PV.tup [(false,[.dat (.sl 9 .str) ((mnV n on off).1)]),(false,[dB z_])]) e11))
end Go.Proofs.YtfkmmpfdncopdaaGreat
namespace Go.Proofs.YtfkmmpfdncopdaaGreat
open Go.RowKit
set_option maxRecDepth 100000
set_option maxHeartbeats 4000000
def SeP (ps on tk:List ByteArray)(more:Int):Prop:=ChP ps on tk more∧∀x∈tk,∀c∈on,x.size≤c.size
section
variable {ps on tk best:List ByteArray}{st:List ByteArray×Bool}{k j:Nat}{more q:Int}{c p x:ByteArray}{b:Bool}
theorem SeP.next (h:SeP ps on tk more)(hp:ps[k]? =some p)(hm:0 < more)(ho:Yq tk p=false):SeP ps on (QN ltB p tk) (more - 1):=by
  obtain ⟨⟨h1,h2,h3,h4,h5⟩,h6⟩:=h
  have hpm:=ap hp
  have hl:=JY ho
  refine ⟨⟨by omega,by omega,fun x hx=> ?_,h4,h5⟩,fun x hx=> ?_⟩
  · rcases ZO.1 hx with rfl | hx
    · exact (h5 _ hpm).1
    · exact h3 x hx
  · rcases ZO.1 hx with rfl | hx
    · exact (h5 _ hpm).2
    · exact h6 x hx
theorem SeP.run (h:SeP ps on tk more)(hG:GdL st.1):GdL (QE (leS ps on more.toNat tk) st).1:=
  QiR GdL (Qp9 (fun p hp=>(h.1.2.2.2.2 p hp).1) more.toNat (by have:=h.1.1; have:=h.1.2.1; omega) h.1.2.2.1) hG
theorem Qtt (hp:ps[k]? =some p)(hm:0 < more)(h:QV p c=true)(e:st=QE (seK ps on tk more c k) (best,b)):((QE (leS ps on (more - 1).toNat (QN ltB p tk)) st).1,(QE (leS ps on (more - 1).toNat (QN ltB p tk)) st).2)=QE (seK ps on tk more c (k+1)) (best,b):=QsA hp hm h e
theorem Qr5 (hp:ps[k]? =some p)(h:¬(0 < more∧QV p c=true))(e:st=QE (seK ps on tk more c k) (best,b)):st=QE (seK ps on tk more c (k+1)) (best,b):=by rw[e,Qrn hp h]
theorem QlV (hN:NoneTo (fun c=> !(inC tk c)) on j)(hc:on[j]? =some c)(h:inC tk c=false)(hk:ps.length≤k)(e:st=QE (seK ps on tk more c k) (best,b)):QE (leS ps on more.toNat tk) (best,b)=st:=by
  rw[e,Qoa (Qlp hN hc h) hk]
theorem Qrj (hN:NoneTo (fun c=> !(inC tk c)) on j)(hk:on.length≤j)(h:btB tk st=true):QE (leS ps on more.toNat tk) st=(tk,true):=by
  rw[YO (Qhr hN hk)]
  show upS st tk=_
  unfold upS; rw[if_pos h]
theorem Qr7 (hN:NoneTo (fun c=> !(inC tk c)) on j)(hk:on.length≤j)(h:btB tk st=false):QE (leS ps on more.toNat tk) st=st:=by
  rw[YO (Qhr hN hk)]
  show upS st tk=_
  unfold upS; rw[if_neg (by rw[h]; simp)]
theorem Qqh (hN:NoneTo (fun c=> !(inC tk c)) on j)(hk:on.length≤j)(hF:∀x∈leS ps on more.toNat tk,(x.length:Int)=(tk.length:Int)+more)(hL:b=true→(best.length:Int)=(tk.length:Int)+more):b=true→best.length=tk.length:=fun hb=>by
  have h1:=hF tk (by rw[YO (Qhr hN hk)]; exact aC.2 rfl)
  have h2:=hL hb
  omega
theorem Qtd (ho:Yq tk p=false)(hL:b=true→(best.length:Int)=(tk.length:Int)+more):b=true→(best.length:Int)=((QN ltB p tk).length:Int)+(more - 1):=fun hb=>by
  have h2:=hL hb
  rw[JY ho]; omega
theorem Qr2 (hN:NoneTo (fun c=> !(inC tk c)) on j)(hc:on[j]? =some c)(h:inC tk c=false)(hp:ps[k]? =some p)(hm:0 < more)(hh:QV p c=true)(hF:∀x∈leS ps on more.toNat tk,(x.length:Int)=(tk.length:Int)+more):∀x∈leS ps on (more - 1).toNat (QN ltB p tk),(x.length:Int)=((QN ltB p tk).length:Int)+(more - 1):=fun x hx=>by
  have h1:=hF x (by
    rw[Qf8 (Qlp hN hc h)]
    exact cj.2 ⟨p,ap hp,by unfold se1; rw[if_pos ⟨hm,hh⟩]; exact hx⟩)
  rw[JY (K5 h hh)]; omega
theorem QtP {st:List ByteArray×Bool}(ho:Yq tk p=false)(hF:∀x∈leS ps on (more - 1).toNat (QN ltB p tk),(x.length:Int)=((QN ltB p tk).length:Int)+(more - 1))(hL:st.2=true→(st.1.length:Int)=(tk.length:Int)+more):(QE (leS ps on (more - 1).toNat (QN ltB p tk)) st).2=true→((QE (leS ps on (more - 1).toNat (QN ltB p tk)) st).1.length:Int)=(tk.length:Int)+more:=
  Qgh (fun l=>(l.length:Int)=(tk.length:Int)+more) (fun l hl=>by have:=hF l hl; rw[JY ho] at this; omega) hL
theorem sp0 {n:Int}{off:List ByteArray}(hn:0≤n∧n≤8)(h1:∀c∈on,(c.size:Int)=n)(ho:on.length≤1000)(h0:0≤q)(hq:q < 7):SeP (QL n on off) on [] q:=
  ⟨⟨h0,by rw[aF]; omega,fun x hx=>by (cases hx),ho,Qpv hn h1⟩,fun x hx=>by (cases hx)⟩
theorem QnB (hF:∀j:Nat,(j:Int) < q→(Yy ps on j).2=false)(h0:0≤q):∀x∈leS ps on q.toNat [],(x.length:Int)=(([]:List ByteArray).length:Int)+q:=fun x hx=>by
  have:=QfV (k:=q.toNat) (fun j hj=>hF j (by omega)) x hx
  rw[aF]; omega
theorem QlI (hF:∀j:Nat,(j:Int) < q→(Yy ps on j).2=false)(h0:0≤q)(h:(Yy ps on q.toNat).2=false):∀j:Nat,(j:Int) < q+1→(Yy ps on j).2=false:=fun j hj=>by
  by_cases e:(j:Int)=q
  · rw[show j=q.toNat by omega]; exact h
  · exact hF j (by omega)
theorem lsA (hF:∀j:Nat,(j:Int) < q→(Yy ps on j).2=false)(h0:0≤q)(hq:q < 7)(hm:(Yy ps on q.toNat).2=true):Yy ps on q.toNat=fmV (Yy ps on) 7 0:=by
  have:=Qhv (f:=Yy ps on) 7 0 q.toNat (by omega) (fun j hj=>by rw[bn]; exact hF j (by omega)) (by rw[bn]; exact hm)
  rw[this,bn]
theorem lsB (hF:∀j:Nat,(j:Int) < q→(Yy ps on j).2=false)(hq:7≤q):([],false)=fmV (Yy ps on) 7 0:=
  (Qh6 7 0 fun j hj=>by rw[bn]; exact hF j (by omega)).symm
end
theorem Uk {N_:Nat}(ih_:∀(ps:List ByteArray) (on:List ByteArray) (best:List ByteArray) (met:Bool) (taken:List ByteArray) (more:Int) (hP:SeP ps on taken more) (hb:GdL best) (hL:met=true→(best.length:Int)=(taken.length:Int)+more) (hF:∀x∈leS ps on more.toNat taken,(x.length:Int)=(taken.length:Int)+more) (_:more.toNat < N_),FC Tryz.prog 258 [(false,[.ptr 0 0]),(false,[.dat (.sl 9 .str) taken]),(false,[dI more])] [bx 0 270 [.dat (.sl 9 .str) ps, .dat (.sl 9 .str) on, .dat (.sl 9 .str) best,dB met]] 1 (Is (PV.tup []) [bx 0 270 [.dat (.sl 9 .str) ps, .dat (.sl 9 .str) on, .dat (.sl 9 .str) ((QE (leS ps on more.toNat taken) (best,met)).1),dB ((QE (leS ps on more.toNat taken) (best,met)).2)]]))(ps:List ByteArray)(on:List ByteArray)(best:List ByteArray)(met:Bool)(taken:List ByteArray)(more:Int)(hP:SeP ps on taken more)(hb:GdL best)(hL:met=true→(best.length:Int)=(taken.length:Int)+more)(hF:∀x∈leS ps on more.toNat taken,(x.length:Int)=(taken.length:Int)+more)(hN_:more.toNat=N_):FC Tryz.prog 258 [(false,[.ptr 0 0]),(false,[.dat (.sl 9 .str) taken]),(false,[dI more])] [bx 0 270 [.dat (.sl 9 .str) ps, .dat (.sl 9 .str) on, .dat (.sl 9 .str) best,dB met]] 1 (Is (PV.tup []) [bx 0 270 [.dat (.sl 9 .str) ps, .dat (.sl 9 .str) on, .dat (.sl 9 .str) ((QE (leS ps on more.toNat taken) (best,met)).1),dB ((QE (leS ps on more.toNat taken) (best,met)).2)]]):=by
 have hP1:=hP.1.1
 have hP2:=hP.1.2.1
 have hP4:=hP.1.2.2.2.1
 refine Ql Tryz.func258 rfl rfl Tryz.ntmps258 fun O_ hO w0_ N0_ X_ h0_ f0_=> ?_
 refine acI 2 fun hi1=> ?_
 iterate 6 refine w_ ?_
 refine alL 13 fun hl2=> ?_
 iterate 4 refine w_ ?_
 refine lpK on.length (fun k=>NoneTo (fun c=> !(inC taken c)) on k) (fun k=>⟨[(0,lP 0 0),(1,lf (.dat (.sl 9 .str) taken)),(2,lI more),(13,lf (.dat (.sl 9 .str) on)),(14,lI (on.length:Int)),(15,lI (k:Int))],[bx 0 270 [.dat (.sl 9 .str) ps, .dat (.sl 9 .str) on, .dat (.sl 9 .str) best,dB met]]⟩) (NoneTo.zero) ?_ fun k hk3 hno=> ?_
 · exact Wk.of [] rfl ⟨rfl,rfl,rfl,rfl,rfl,rfl,trivial⟩ ⟨rfl,trivial⟩ rfl rfl
 iterate 4 refine w_ ?_
 cases hb4:(decide ((k:Int) < (on.length:Int)))
 ·have hb4':=ab hb4
  refine w_ ?_
  refine Qj ?_
  refine (?_:AC _ _ _ _ _)
  iterate 3 refine w_ ?_
  refine lc (dP 1 [] (Kr ps on best met taken hP.1.gd hb (Qqh hno (by omega) hF hL)) Qim) ?_
  refine w_ ?_
  refine cb_ (fun hb5=> ?_) fun hb5=> ?_
  ·refine AC.skip ?_
   refine (?_:fin _ _ _ _ .normal _)
   exact fi_ [] hO ⟨(((congrArg (fun z_=>some (Ent.box 270 [.dat (.sl 9 .str) ps, .dat (.sl 9 .str) on, .dat (.sl 9 .str) z_,dB met])) (show (best:((.sl 9 .str):Ty).Den)=((QE (leS ps on more.toNat taken) (best,met)).1) by exact (congrArg Prod.fst (Qr7 (st:=(best,met)) hno (by omega) (by assumption))).symm))).trans (congrArg (fun z_=>some (Ent.box 270 [.dat (.sl 9 .str) ps, .dat (.sl 9 .str) on, .dat (.sl 9 .str) ((QE (leS ps on more.toNat taken) (best,met)).1),dB z_])) (show (met:Bool)=((QE (leS ps on more.toNat taken) (best,met)).2) by exact (congrArg Prod.snd (Qr7 (st:=(best,met)) hno (by omega) (by assumption))).symm))),trivial⟩
  ·iterate 12 refine w_ ?_
   refine Qd ?_
   refine (?_:fin _ _ _ _ .normal _)
   exact fi_ [] hO ⟨(((congrArg (fun z_=>some (Ent.box 270 [.dat (.sl 9 .str) ps, .dat (.sl 9 .str) on, .dat (.sl 9 .str) z_,dB true])) (show (taken:((.sl 9 .str):Ty).Den)=((QE (leS ps on more.toNat taken) (best,met)).1) by exact (congrArg Prod.fst (Qrj (st:=(best,met)) hno (by omega) (by assumption))).symm))).trans (congrArg (fun z_=>some (Ent.box 270 [.dat (.sl 9 .str) ps, .dat (.sl 9 .str) on, .dat (.sl 9 .str) ((QE (leS ps on more.toNat taken) (best,met)).1),dB z_])) (show (true:Bool)=((QE (leS ps on more.toNat taken) (best,met)).2) by exact (congrArg Prod.snd (Qrj (st:=(best,met)) hno (by omega) (by assumption))).symm))),trivial⟩
 ·have hb4':=ae hb4
  iterate 5 refine w_ ?_
  obtain ⟨cc,hx7⟩:∃z,on[k]? =some z:=⟨_,aa (by omega)⟩
  have hcc:=hx7
  iterate 8 refine w_ ?_
  refine lc (dK (QcM taken cc (fun x hx=>hP.2 x hx _ (ap hcc))) Qg6) ?_
  refine w_ ?_
  cases hb8:(taken.any (fun c=>QV c cc))
  ·iterate 8 refine w_ ?_
   refine alL 25 fun hl9=> ?_
   iterate 4 refine w_ ?_
   refine Qy (fun m_ s_=>∃(j:Nat) (b_:List ByteArray) (f_:Bool),j≤ps.length∧m_=ps.length - j∧((b_,f_)=QE (seK ps on taken more cc j) (best,met))∧(GdL b_)∧(f_=true→(b_.length:Int)=(taken.length:Int)+more)∧s_=⟨[(0,lP 0 0),(1,lf (.dat (.sl 9 .str) taken)),(2,lI more),(7,lf (dS cc)),(13,lf (.dat (.sl 9 .str) on)),(14,lI (on.length:Int)),(15,lI (k:Int)),(16,lB true),(17,lf (.elt .str cc 0)),(18,lf (dS cc)),(19,lf (.dat (.sl 9 .str) taken)),(20,lf (dS cc)),(21,lB false),(22,lP 0 0),(23,lP 0 0),(24,lP 0 0),(25,lf (.dat (.sl 9 .str) ps)),(26,lI (ps.length:Int)),(27,lI (j:Int))],[bx 0 270 [.dat (.sl 9 .str) ps, .dat (.sl 9 .str) on, .dat (.sl 9 .str) b_,dB f_]]⟩) ⟨0,best,met,aR _,rfl,rfl,hb,hL,rfl⟩ ?_ ?_
   · exact Wk.of [] rfl ⟨rfl,rfl,rfl,rfl,rfl,rfl,rfl,rfl,rfl,rfl,rfl,rfl,rfl,rfl,rfl,rfl,rfl,rfl,rfl,trivial⟩ ⟨rfl,trivial⟩ rfl rfl
   rintro m_ s_ ⟨j,b_,f_,hk10,hm11,hA,hG,hL2,rfl⟩
   iterate 4 refine w_ ?_
   cases hb12:(decide ((j:Int) < (ps.length:Int)))
   ·have hb12':=ab hb12
    refine w_ ?_
    refine Qj ?_
    refine (?_:AC _ _ _ _ _)
    refine Qb ?_
    exact fi_ [] hO ⟨(((congrArg (fun z_=>some (Ent.box 270 [.dat (.sl 9 .str) ps, .dat (.sl 9 .str) on, .dat (.sl 9 .str) z_,dB f_])) (show (b_:((.sl 9 .str):Ty).Den)=((QE (leS ps on more.toNat taken) (best,met)).1) by exact (congrArg Prod.fst (QlV (st:=(b_,f_)) hno hcc (by assumption) (by omega) hA)).symm))).trans (congrArg (fun z_=>some (Ent.box 270 [.dat (.sl 9 .str) ps, .dat (.sl 9 .str) on, .dat (.sl 9 .str) ((QE (leS ps on more.toNat taken) (best,met)).1),dB z_])) (show (f_:Bool)=((QE (leS ps on more.toNat taken) (best,met)).2) by exact (congrArg Prod.snd (QlV (st:=(b_,f_)) hno hcc (by assumption) (by omega) hA)).symm))),trivial⟩
   ·have hb12':=ae hb12
    iterate 5 refine w_ ?_
    obtain ⟨cp,hx14⟩:∃z,ps[j]? =some z:=⟨_,aa (by omega)⟩
    have hcp:=hx14
    iterate 8 refine w_ ?_
    cases hb15:(decide (0 < more))
    ·have hb15':=ab hb15
     iterate 6 refine w_ ?_
     refine AC.skip ?_
     refine (?_:AC _ _ _ _ _)
     iterate 3 refine w_ ?_
     refine Qd<|Q0 ⟨j+1,b_,f_,by omega,rfl,(by exact Qr5 hcp (fun g=>absurd g.1 (by assumption)) hA),(by exact hG),(by exact hL2),rfl⟩ (by omega) ?_
     exact Wk.of [] rfl ⟨rfl,rfl,rfl,rfl,rfl,rfl,rfl,rfl,rfl,rfl,rfl,rfl,rfl,rfl,rfl,rfl,rfl,rfl,rfl,trivial⟩ ⟨rfl,trivial⟩ rfl rfl
    ·have hb15':=ae hb15
     iterate 2 refine w_ ?_
     refine lgy rfl rfl (dK (Wo cp cc ((hP.1.2.2.2.2 _ (ap hcp)).2 _ (ap hcc))) KG) ?_
     iterate 2 refine w_ ?_
     cases hb16:(QV cp cc)
     ·refine w_ ?_
      refine AC.skip ?_
      refine (?_:AC _ _ _ _ _)
      iterate 3 refine w_ ?_
      refine Qd<|Q0 ⟨j+1,b_,f_,by omega,rfl,(by exact Qr5 hcp (fun g=>absurd (g.2.symm.trans (by assumption)) (by decide)) hA),(by exact hG),(by exact hL2),rfl⟩ (by omega) ?_
      exact Wk.of [] rfl ⟨rfl,rfl,rfl,rfl,rfl,rfl,rfl,rfl,rfl,rfl,rfl,rfl,rfl,rfl,rfl,rfl,rfl,rfl,rfl,trivial⟩ ⟨rfl,trivial⟩ rfl rfl
     ·iterate 5 refine w_ ?_
      refine lc (dK (Um taken cp (by omega) (K5 (c:=cc) (by assumption) (by assumption))) Qbg) ?_
      iterate 2 refine w_ ?_
      refine lc (dP 2 [] (ih_ ps on b_ f_ (QN ltB cp taken) (more - 1) (hP.next hcp (by assumption) (K5 (c:=cc) (by assumption) (by assumption))) hG (Qtd (K5 (c:=cc) (by assumption) (by assumption)) hL2) (Qr2 hno hcc (by assumption) hcp (by assumption) (by assumption) hF) (by omega)) Qbr) ?_
      refine Qd ?_
      refine (?_:AC _ _ _ _ _)
      iterate 3 refine w_ ?_
      refine Qd<|Q0 ⟨j+1,((QE (leS ps on (more - 1).toNat (QN ltB cp taken)) (b_,f_)).1),((QE (leS ps on (more - 1).toNat (QN ltB cp taken)) (b_,f_)).2),by omega,rfl,(by exact Qtt hcp (by assumption) (by assumption) hA),(by exact (hP.next hcp (by assumption) (K5 (c:=cc) (by assumption) (by assumption))).run (st:=(b_,f_)) hG),(by exact QtP (st:=(b_,f_)) (K5 (c:=cc) (by assumption) (by assumption)) (Qr2 hno hcc (by assumption) hcp (by assumption) (by assumption) hF) hL2),rfl⟩ (by omega) ?_
      exact Wk.of [] rfl ⟨rfl,rfl,rfl,rfl,rfl,rfl,rfl,rfl,rfl,rfl,rfl,rfl,rfl,rfl,rfl,rfl,rfl,rfl,rfl,trivial⟩ ⟨rfl,trivial⟩ rfl rfl
  ·refine w_ ?_
   refine Qj ?_
   refine (?_:AC _ _ _ _ _)
   iterate 3 refine w_ ?_
   refine Qd ?_
   refine lK_ ((hno.step hcc (congrArg (fun b=> !b) (by assumption:(taken.any fun c=>QV c cc)=true)))) ?_
   exact Wk.of [] rfl ⟨rfl,rfl,rfl,rfl,rfl,rfl,trivial⟩ ⟨rfl,trivial⟩ rfl rfl
theorem Kj (ps:List ByteArray)(on:List ByteArray)(best:List ByteArray)(met:Bool)(taken:List ByteArray)(more:Int)(hP:SeP ps on taken more)(hb:GdL best)(hL:met=true→(best.length:Int)=(taken.length:Int)+more)(hF:∀x∈leS ps on more.toNat taken,(x.length:Int)=(taken.length:Int)+more):FC Tryz.prog 258 [(false,[.ptr 0 0]),(false,[.dat (.sl 9 .str) taken]),(false,[dI more])] [bx 0 270 [.dat (.sl 9 .str) ps, .dat (.sl 9 .str) on, .dat (.sl 9 .str) best,dB met]] 1 (Is (PV.tup []) [bx 0 270 [.dat (.sl 9 .str) ps, .dat (.sl 9 .str) on, .dat (.sl 9 .str) ((QE (leS ps on more.toNat taken) (best,met)).1),dB ((QE (leS ps on more.toNat taken) (best,met)).2)]]):=by
 have H:∀(N_:Nat) (ps:List ByteArray) (on:List ByteArray) (best:List ByteArray) (met:Bool) (taken:List ByteArray) (more:Int) (hP:SeP ps on taken more) (hb:GdL best) (hL:met=true→(best.length:Int)=(taken.length:Int)+more) (hF:∀x∈leS ps on more.toNat taken,(x.length:Int)=(taken.length:Int)+more) (_:more.toNat=N_),FC Tryz.prog 258 [(false,[.ptr 0 0]),(false,[.dat (.sl 9 .str) taken]),(false,[dI more])] [bx 0 270 [.dat (.sl 9 .str) ps, .dat (.sl 9 .str) on, .dat (.sl 9 .str) best,dB met]] 1 (Is (PV.tup []) [bx 0 270 [.dat (.sl 9 .str) ps, .dat (.sl 9 .str) on, .dat (.sl 9 .str) ((QE (leS ps on more.toNat taken) (best,met)).1),dB ((QE (leS ps on more.toNat taken) (best,met)).2)]]):=fun N_=>Nat.strongRecOn N_ fun N_ ih_=>fun ps on best met taken more hP hb hL hF hN_=>Uk (fun ps on best met taken more hP hb hL hF h_=>ih_ _ h_ ps on best met taken more hP hb hL hF rfl) ps on best met taken more hP hb hL hF hN_
 exact H _ ps on best met taken more hP hb hL hF rfl
theorem HZ (n:Int)(on:List ByteArray)(off:List ByteArray)(hn:0≤n∧n≤8)(h1:∀c∈on,(c.size:Int)=n)(h2:∀c∈off,(c.size:Int)=n)(ho:on.length≤1000):FC Tryz.prog 185 [(false,[dI n]),(false,[.dat (.sl 9 .str) on]),(false,[.dat (.sl 9 .str) off])] [] 0 (QH (PV.tup [(false,[.dat (.sl 9 .str) ((fmV (Yy (QL n on off) on) 7 0).1)]),(false,[dB ((fmV (Yy (QL n on off) on) 7 0).2)])])):=by
 refine Ql Tryz.func185 rfl rfl Tryz.ntmps185 fun O_ hO w0_ N0_ X_ h0_ f0_=> ?_
 refine acI 0 fun hi1=> ?_
 iterate 9 refine w_ ?_
 refine Qy (fun m_ s_=>∃(q_:Int),m_=(7 - q_).toNat∧(0≤q_∧q_≤7)∧(∀j:Nat,(j:Int) < q_→(Yy (QL n on off) on j).2=false)∧s_=⟨[(0,lI n),(1,lf (.dat (.sl 9 .str) on)),(2,lf (.dat (.sl 9 .str) off)),(8,lI q_)],[]⟩) ⟨0,rfl,by omega,(fun j hj=>by omega),rfl⟩ ?_ ?_
 · exact Wk.of [] rfl ⟨rfl,rfl,rfl,rfl,trivial⟩ trivial rfl rfl
 rintro m_ s_ ⟨q_,hm3,hq,hF,rfl⟩
 iterate 5 refine w_ ?_
 cases hb4:(decide (q_≤6))
 ·have hb4':=ab hb4
  refine w_ ?_
  refine Qj ?_
  refine (?_:AC _ _ _ _ _)
  iterate 4 refine w_ ?_
  refine AC.wk (VN (i:=6) 9 .str rfl)<|Qb ?_
  have e5:([]:((.sl 9 .str):Ty).Den)=((fmV (Yy (QL n on off) on) 7 0).1):=by
   exact congrArg Prod.fst (lsB hF (by omega))
  have e6:(false:Bool)=((fmV (Yy (QL n on off) on) 7 0).2):=by
   exact congrArg Prod.snd (lsB hF (by omega))
  exact fr_ hO (e:=((congrArg (fun z_=>PV.tup [(false,[.dat (.sl 9 .str) z_]),(false,[dB false])]) e5)).trans (congrArg (fun z_=>PV.tup [(false,[.dat (.sl 9 .str) ((fmV (Yy (QL n on off) on) 7 0).1)]),(false,[dB z_])]) e6))
 ·have hb4':=ae hb4
  iterate 8 refine w_ ?_
  refine lc (dK (WO n on off hn h1 h2).frozen Qbp) ?_
  refine w_ ?_
  refine lc (Qp Qo5 ⟨_,_,rfl,(Qm rfl),⟨_,_,rfl,(Qm rfl),rfl⟩⟩ (aB.1 rfl) rfl rfl) ?_
  refine xbx 0 ?_
  iterate 2 refine w_ ?_
  refine ZS<|AC.wk (U4 (p:=0) [.dat (.sl 9 .str) (QL n on off), .dat (.sl 9 .str) on, .dat (.sl 9 .str) ([]),dB false] rfl ⟨_,_,rfl, .inl rfl,⟨_,_,rfl, .inl rfl,⟨_,_,rfl, .inr ⟨_,_,rfl,rfl⟩,⟨_,_,rfl, .inl rfl,rfl⟩⟩⟩⟩) ?_
  iterate 3 refine w_ ?_
  refine lc (KU 1 [(0,0)] (Kj (QL n on off) on ([]) false ([]:((.sl 9 .str):Ty).Den) q_ (sp0 hn h1 ho hq.1 (by omega)) gd0 (fun h=>by cases h) (QnB hF hq.1)) Qbr ⟨_,_,rfl,(Qm rfl),⟨_,_,rfl,(Evl.ev Evl.nil),⟨_,_,rfl,(Qm rfl),rfl⟩⟩⟩ ⟨rfl,trivial⟩ rfl ⟨trivial,trivial⟩ (nlr rfl)) ?_
  iterate 7 refine w_ ?_
  cases hb7:(((QE (leS (QL n on off) on q_.toNat ([]:((.sl 9 .str):Ty).Den)) (([]),false)).2))
  ·refine w_ ?_
   refine AC.skip ?_
   refine (?_:AC _ _ _ _ _)
   iterate 4 refine w_ ?_
   refine Qd<|Q0 ⟨(q_+1),rfl,by omega,(QlI hF hq.1 (by assumption)),rfl⟩ (by omega) ?_
   exact Wk.of [] rfl ⟨rfl,rfl,rfl,rfl,trivial⟩ trivial rfl rfl
  ·iterate 9 refine w_ ?_
   refine Qb ?_
   have e8:(((QE (leS (QL n on off) on q_.toNat ([]:((.sl 9 .str):Ty).Den)) (([]),false)).1):((.sl 9 .str):Ty).Den)=((fmV (Yy (QL n on off) on) 7 0).1):=by
    exact congrArg Prod.fst (lsA hF hq.1 (by omega) (by assumption))
   have e9:(true:Bool)=((fmV (Yy (QL n on off) on) 7 0).2):=by
    ((rw[← lsA hF hq.1 (by omega) (by assumption)]); exact (by assumption:(Yy _ _ _).2=true).symm)
   exact fr_ hO (e:=((congrArg (fun z_=>PV.tup [(false,[.dat (.sl 9 .str) z_]),(false,[dB true])]) e8)).trans (congrArg (fun z_=>PV.tup [(false,[.dat (.sl 9 .str) ((fmV (Yy (QL n on off) on) 7 0).1)]),(false,[dB z_])]) e9))
end Go.Proofs.YtfkmmpfdncopdaaGreat
