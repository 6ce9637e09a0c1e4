/- Walks over abstract states: covers at a code, the codes of a cover; small functions of the laws. -/
import Derived.Test.YtfkmmpfdncopdaaGreatHh
import Derived.Test.YtfkmmpfdncopdaaGreatHx
import Derived.Test.YtfkmmpfdncopdaaGreatDm
import Derived.Test.YtfkmmpfdncopdaaGreatCq
set_option linter.unusedSimpArgs false
set_option linter.unusedVariables false
set_option linter.unusedSectionVars false
namespace Go.Proofs.YtfkmmpfdncopdaaGreat
open Go.RowKit
set_option maxRecDepth 100000
set_option maxHeartbeats 4000000
def ccP (l:List ByteArray)(code:ByteArray):Prop:=Zp (code.size:Int) l∧WI code (code.size:Int)
instance (l:List ByteArray) (code:ByteArray):Decidable (ccP l code):=inferInstanceAs (Decidable (_∧_))
def ccV (l:List ByteArray)(code:ByteArray):Bool:=decide (ccP l code)&&l.any fun c=>YO c code
def Qeh (n:Int)(l:List ByteArray):List ByteArray:=(Qr n.toNat).filter fun x=>l.any fun c=>YO c x
def cdK (n:Int)(l:List ByteArray)(k:Nat):List ByteArray:=((Qr n.toNat).take k).filter fun x=>l.any fun c=>YO c x
section
variable {l:List ByteArray}{c x code:ByteArray}{n:Int}{k:Nat}
theorem QpV (h1:Zp (code.size:Int) l)(h2:WI code (code.size:Int)):ccV l code=(l.any fun c=>YO c code)∧decide (ccP l code)=true:=by
  have:decide (ccP l code)=true:=aJ ⟨h1,h2⟩
  exact ⟨by unfold ccV; rw[this]; rfl,this⟩
theorem Qmo (h:¬ccP l code):ccV l code=false∧decide (ccP l code)=false:=by
  have:decide (ccP l code)=false:=az h
  exact ⟨by unfold ccV; rw[this]; rfl,this⟩
theorem QnM (hx:(Qr n.toNat)[k]? =some x)(h:(l.any fun c=>YO c x)=true):cdK n l k++[x]=cdK n l (k+1):=Qhm hx h
theorem QnG (hx:(Qr n.toNat)[k]? =some x)(h:(l.any fun c=>YO c x)=false):cdK n l k=cdK n l (k+1):=Qlg hx h
theorem Qpf (h:n≤8):(cdK n l k).length≤256:=bn (cp ..) (bn (List.length_take_le' ..) (YW (by omega)))
theorem Ql9 (h:(Qr n.toNat).length≤k):cdK n l k=Qeh n l:=by unfold cdK Qeh; rw[b7 h]
theorem QpO (hn:0≤n)(hx:(Qr n.toNat)[k]? =some x)(hl:∀c∈l,(c.size:Int)≤n):∀c∈l,c.size≤x.size:=fun c hc=>by
  have h1:=Z8 (ao hx)
  have h2:=hl c hc
  omega
end
theorem QV (l:List ByteArray)(code:ByteArray):FC Tryz.prog 18 [(false,[.dat (.sl 9 .str) l]),(false,[dS code])] [] 0 (QU (PV.tup [(false,[dB (ccV l code)]),(false,[dB (decide (ccP l code))])])):=by
 refine Qj Tryz.func18 rfl rfl Tryz.ntmps18 fun O_ hO w0_ N0_ X_ h0_ f0_=> ?_
 iterate 7 refine w_ ?_
 refine alS 6 fun hl1=> ?_
 refine lc (QI (Qa rfl) rfl QR) ?_
 refine w_ ?_
 refine lc (dK (XJ (code.size:Int) l) QcW) ?_
 iterate 2 refine w_ ?_
 cases hb2:(decide (Zp (code.size:Int) l))
 ·have hb2':=ab hb2
  iterate 12 refine w_ ?_
  refine Qb ?_
  have e3:(false:Bool)=(ccV l code):=by
   exact (Qmo (fun g=>absurd g.1 (by assumption))).1.symm
  have e4:(false:Bool)=(decide (ccP l code)):=by
   exact (Qmo (fun g=>absurd g.1 (by assumption))).2.symm
  exact fr_ hO (e:=((congrArg (fun z_=>PV.tup [(false,[dB z_]),(false,[dB false])]) e3)).trans (congrArg (fun z_=>PV.tup [(false,[dB (ccV l code)]),(false,[dB z_])]) e4))
 ·have hb2':=ae hb2
  iterate 2 refine w_ ?_
  refine alS 13 fun hl5=> ?_
  refine lgy rfl rfl (QI (Qa rfl) rfl QR) ?_
  refine lgy rfl rfl (dK (Ug code (code.size:Int)) QcL) ?_
  iterate 3 refine w_ ?_
  cases hb6:(decide (WI code (code.size:Int)))
  ·have hb6':=ab hb6
   iterate 5 refine w_ ?_
   refine Qb ?_
   have e7:(false:Bool)=(ccV l code):=by
    exact (Qmo (fun g=>absurd g.2 (by assumption))).1.symm
   have e8:(false:Bool)=(decide (ccP l code)):=by
    exact (Qmo (fun g=>absurd g.2 (by assumption))).2.symm
   exact fr_ hO (e:=((congrArg (fun z_=>PV.tup [(false,[dB z_]),(false,[dB false])]) e7)).trans (congrArg (fun z_=>PV.tup [(false,[dB (ccV l code)]),(false,[dB z_])]) e8))
  ·have hb6':=ae hb6
   iterate 5 refine w_ ?_
   refine lc (dK (Qa8 l code (fun c hc=>by have:=QcX (by assumption:Zp (code.size:Int) l) hc; omega)) QiR) ?_
   iterate 3 refine w_ ?_
   refine Qb ?_
   have e9:(l.any (fun c=>YO c code):Bool)=(ccV l code):=by
    exact (QpV (by assumption) (by assumption)).1.symm
   have e10:(true:Bool)=(decide (ccP l code)):=by
    exact (QpV (by assumption) (by assumption)).2.symm
   exact fr_ hO (e:=((congrArg (fun z_=>PV.tup [(false,[dB z_]),(false,[dB true])]) e9)).trans (congrArg (fun z_=>PV.tup [(false,[dB (ccV l code)]),(false,[dB z_])]) e10))
theorem KA (n:Int)(l:List ByteArray)(hn:0≤n∧n≤8)(hln:∀c∈l,(c.size:Int)≤n):FC Tryz.prog 75 [(false,[dI n]),(false,[.dat (.sl 9 .str) l])] [] 0 (Wv 9 .str (Qeh n l)):=by
 refine Qj Tryz.func75 rfl rfl Tryz.ntmps75 fun O_ hO w0_ N0_ X_ h0_ f0_=> ?_
 refine acI 0 fun hi1=> ?_
 iterate 9 refine w_ ?_
 refine lc (dK (Xo n hn).frozen JF) ?_
 refine alL 9 fun hl2=> ?_
 iterate 4 refine w_ ?_
 refine AC.wk (Wk.nilS 0 5 9 .str rfl (Fresh.of rfl) (nlr rfl)) ?_
 refine lp0 ((Qr n.toNat).length) (fun k=>⟨[(1,lf (.dat (.sl 9 .str) l)),(4,lf (.val (.slice none 0 0))),(5,lR 1),(9,lf (.dat (.sl 9 .str) (Qr n.toNat))),(10,lI ((Qr n.toNat).length:Int)),(11,lI (k:Int))],[ar 1 9 .str (cdK n l k)]⟩) ?_ fun k hk3=> ?_
 · exact Wk.of [(1,0)] rfl ⟨rfl,rfl,rfl,rfl,rfl,rfl,trivial⟩ ⟨(Qk (rfl)),trivial⟩ rfl rfl
 have hfl:=Qpf (n:=n) (l:=l) (k:=k) hn.2
 iterate 4 refine w_ ?_
 cases hb4:(decide ((k:Int) < ((Qr n.toNat).length:Int)))
 ·have hb4':=ab hb4
  refine w_ ?_
  refine Qi ?_
  refine (?_:AC _ _ _ _ _)
  iterate 4 refine w_ ?_
  refine Qb<|fo_ hO ?_
  exact Ql9 (by omega)
 ·have hb4':=ae hb4
  iterate 5 refine w_ ?_
  obtain ⟨x5,hx6⟩:∃z,(Qr n.toNat)[k]? =some z:=⟨_,aa (by omega)⟩
  iterate 7 refine w_ ?_
  refine lc (dK (QbK l x5 (QpO hn.1 hx6 hln)) Qf9) ?_
  refine w_ ?_
  cases hb7:(l.any (fun c=>YO c x5))
  ·refine w_ ?_
   refine AC.skip ?_
   refine (?_:AC _ _ _ _ _)
   iterate 3 refine w_ ?_
   refine Qd ?_
   refine l0_ ?_
   exact Wk.of [] rfl ⟨rfl,rfl,rfl,rfl,rfl,rfl,trivial⟩ ⟨(Qk (by first | exact QnM hx6 (by assumption) | exact QnG hx6 (by assumption))),trivial⟩ rfl rfl
  ·iterate 4 refine w_ ?_
   refine lc (dBs 2 (e:= .str) ZZ) ?_
   refine lc (dA 3 YS) ?_
   refine w_ ?_
   refine Qd ?_
   refine (?_:AC _ _ _ _ _)
   iterate 3 refine w_ ?_
   refine Qd ?_
   refine l0_ ?_
   exact Wk.of [(1,3)] rfl ⟨rfl,rfl,rfl,rfl,rfl,rfl,trivial⟩ ⟨(Qk (by first | exact QnM hx6 (by assumption) | exact QnG hx6 (by assumption))),trivial⟩ rfl rfl
theorem W2 (n:Int)(l:List ByteArray):FC Tryz.prog 17 [(false,[dI n]),(false,[.dat (.sl 9 .str) l])] [] 0 (Is (PV.tup [(false,[.ref 0]),(false,[dB (decide (Zp n l))])]) [ar 0 9 .str (if Zp n l then Qeh n l else [])]):=by
 refine Qj Tryz.func17 rfl rfl Tryz.ntmps17 fun O_ hO w0_ N0_ X_ h0_ f0_=> ?_
 refine acI 0 fun hi1=> ?_
 iterate 8 refine w_ ?_
 refine lc (dK (VH n l) Qco) ?_
 iterate 2 refine w_ ?_
 cases hb2:(decide (Zp n l))
 ·have hb2':=ab hb2
  iterate 5 refine w_ ?_
  refine AC.wk (Wk.nilS 0 4 9 .str rfl (Fresh.of rfl) (nlr rfl))<|Qb ?_
  have e3:(false:Bool)=(decide (Zp n l)):=by
   exact (if_neg (by assumption)).symm
  exact fi_ [] hO ⟨(Qk (by exact (if_neg (by assumption)).symm)),trivial⟩ (h0:=(congrArg (fun z_=>PV.tup [(false,[.ref 0]),(false,[dB z_])]) e3))
 ·have hb2':=ae hb2
  iterate 5 refine w_ ?_
  refine lc (dO 1 (KA n l (by have:=(by assumption:Zp n l).1; omega) (fun c hc=>by have:=QcX (by assumption:Zp n l) hc; omega)) QjL) ?_
  iterate 3 refine w_ ?_
  refine Qb ?_
  have e4:(true:Bool)=(decide (Zp n l)):=by
   exact (if_pos (by assumption)).symm
  exact fi_ [(0,1)] hO ⟨(Qk (by exact (if_pos (by assumption)).symm)),trivial⟩ (h0:=(congrArg (fun z_=>PV.tup [(false,[.ref 1]),(false,[dB z_])]) e4))
theorem ZQ (a:List ByteArray×List ByteArray)(b:List ByteArray×List ByteArray):FC Tryz.prog 24 [(true,[.dat (.sl 9 .str) a.1, .dat (.sl 9 .str) a.2]),(true,[.dat (.sl 9 .str) b.1, .dat (.sl 9 .str) b.2])] [] 0 (QU (lB (decide (a.1=b.1∧a.2=b.2)))):=by
 refine Qj Tryz.func24 rfl rfl Tryz.ntmps24 fun O_ hO w0_ N0_ X_ h0_ f0_=> ?_
 refine w_ ?_
 refine xbx 0 ?_
 refine xbx 1 ?_
 iterate 7 refine w_ ?_
 refine lc (dK (Jf a.1 b.1) Qb5) ?_
 refine w_ ?_
 cases hb1:(decide (a.1=b.1))
 ·have hb1':=ab hb1
  iterate 8 refine w_ ?_
  refine Qb<|fqB hO ?_
  exact (az fun g=>absurd g.1 (by assumption)).symm
 ·have hb1':=ae hb1
  iterate 4 refine w_ ?_
  refine lgy rfl rfl (dK (Jf a.2 b.2) Qb5) ?_
  iterate 3 refine w_ ?_
  refine Qb<|fqB hO ?_
  exact bQ.2 ⟨fun g=>⟨by assumption,g⟩,fun g=>g.2⟩
theorem ZP (a:List ByteArray×List ByteArray)(b:List ByteArray×List ByteArray):FC Tryz.prog 25 [(true,[.dat (.sl 9 .str) a.1, .dat (.sl 9 .str) a.2]),(true,[.dat (.sl 9 .str) b.1, .dat (.sl 9 .str) b.2])] [] 0 (QU (lB (decide (a.1=b.1∧a.2=b.2)))):=by
 refine Qj Tryz.func25 rfl rfl Tryz.ntmps25 fun O_ hO w0_ N0_ X_ h0_ f0_=> ?_
 refine w_ ?_
 refine xbx 0 ?_
 refine xbx 1 ?_
 iterate 7 refine w_ ?_
 refine lc (dK (KJ a.1 b.1) Qcs) ?_
 refine w_ ?_
 cases hb1:(decide (a.1=b.1))
 ·have hb1':=ab hb1
  iterate 8 refine w_ ?_
  refine Qb<|fqB hO ?_
  exact (az fun g=>absurd g.1 (by assumption)).symm
 ·have hb1':=ae hb1
  iterate 4 refine w_ ?_
  refine lgy rfl rfl (dK (KJ a.2 b.2) Qcs) ?_
  iterate 3 refine w_ ?_
  refine Qb<|fqB hO ?_
  exact bQ.2 ⟨fun g=>⟨by assumption,g⟩,fun g=>g.2⟩
theorem K4 (a:List ByteArray)(b:List ByteArray)(h:a=b):FC Tryz.prog 11 [(false,[.dat (.sl 9 .str) a]),(false,[.dat (.sl 9 .str) b])] [] 0 (QU (lB true)):=by
 have hlx:a.length=b.length:=by rw[h]
 refine Qj Tryz.func11 rfl rfl Tryz.ntmps11 fun O_ hO w0_ N0_ X_ h0_ f0_=> ?_
 iterate 6 refine w_ ?_
 refine alL 6 fun hl1=> ?_
 iterate 2 refine w_ ?_
 refine alL 8 fun hl2=> ?_
 iterate 3 refine w_ ?_
 refine cn_ (fun hb3 hb3'=> ?_) fun hb3 hb3'=> ?_
 ·iterate 4 refine w_ ?_
  refine alL 11 fun hl4=> ?_
  iterate 4 refine w_ ?_
  refine lp0 a.length (fun k=>⟨[(0,lf (.dat (.sl 9 .str) a)),(1,lf (.dat (.sl 9 .str) b)),(12,lI (a.length:Int)),(13,lI (k:Int))],[]⟩) ?_ fun k hk5=> ?_
  · exact Wk.of [] rfl ⟨rfl,rfl,rfl,rfl,trivial⟩ trivial rfl rfl
  iterate 4 refine w_ ?_
  cases hb6:(decide ((k:Int) < (a.length:Int)))
  ·have hb6':=ab hb6
   refine w_ ?_
   refine Qi ?_
   refine (?_:AC _ _ _ _ _)
   iterate 3 refine w_ ?_
   refine Qb ?_
   exact fe_ hO
  ·have hb6':=ae hb6
   iterate 8 refine w_ ?_
   obtain ⟨x7,hx8⟩:∃z,a[k]? =some z:=⟨_,aa (by omega)⟩
   obtain ⟨x9,hx10⟩:∃z,b[k]? =some z:=⟨_,aa (by omega)⟩
   apply dW (i9 16 _ _ _ _ _ _ _ _ _ []) [0,1,0,0,15,31,15,15,0]
   iterate 9 refine z_ ?_
   exact zN
   cases hb11:(!decide (x7=x9))
   ·have hb11':(x7=x9):=Qz hb11
    refine w_ ?_
    refine AC.skip ?_
    refine (?_:AC _ _ _ _ _)
    iterate 3 refine w_ ?_
    refine Qd ?_
    refine l0_ ?_
    exact Wk.of [] rfl ⟨rfl,rfl,rfl,rfl,trivial⟩ trivial rfl rfl
   ·have hb11':¬(x7=x9):=QN hb11
    iterate 4 refine w_ ?_
    refine Qb<|fqB hO ?_
    (subst h; exfalso; simp_all; done)
 ·iterate 3 refine w_ ?_
  refine Qb<|fqB hO ?_
  (subst h; exfalso; simp_all; done)
theorem Hh (l:List ByteArray)(s:ByteArray):FC Tryz.prog 12 [(false,[.dat (.sl 9 .str) l]),(false,[dS s])] [] 0 (QU (lI (Zb (fun y=>decide (y=s)) l))):=by
 refine Qj Tryz.func12 rfl rfl Tryz.ntmps12 fun O_ hO w0_ N0_ X_ h0_ f0_=> ?_
 iterate 6 refine w_ ?_
 refine alL 7 fun hl1=> ?_
 iterate 4 refine w_ ?_
 refine lpK l.length (fun k=>NoneTo (fun y=>decide (y=s)) l k) (fun k=>⟨[(1,lf (dS s)),(7,lf (.dat (.sl 9 .str) l)),(8,lI (l.length:Int)),(9,lI (k:Int))],[]⟩) (NoneTo.zero) ?_ fun k hk2 hno=> ?_
 · exact Wk.of [] rfl ⟨rfl,rfl,rfl,rfl,trivial⟩ trivial rfl rfl
 iterate 4 refine w_ ?_
 cases hb3:(decide ((k:Int) < (l.length:Int)))
 ·have hb3':=ab hb3
  refine w_ ?_
  refine Qi ?_
  refine (?_:AC _ _ _ _ _)
  iterate 3 refine w_ ?_
  refine Qb<|fqI hO ?_
  first | exact (hno.no (by omega)).symm
 ·have hb3':=ae hb3
  iterate 6 refine w_ ?_
  obtain ⟨x4,hx5⟩:∃z,l[k]? =some z:=⟨_,aa (by omega)⟩
  iterate 10 refine w_ ?_
  cases hb6:(decide (x4=s))
  ·have hb6':=ab hb6
   refine w_ ?_
   refine AC.skip ?_
   refine (?_:AC _ _ _ _ _)
   iterate 3 refine w_ ?_
   refine Qd ?_
   refine lK_ (hno.step hx5 (az (by assumption))) ?_
   exact Wk.of [] rfl ⟨rfl,rfl,rfl,rfl,trivial⟩ trivial rfl rfl
  ·have hb6':=ae hb6
   iterate 5 refine w_ ?_
   refine Qb<|fqI hO ?_
   exact (hno.at hx5 (aJ (by assumption))).symm
end Go.Proofs.YtfkmmpfdncopdaaGreat
namespace Go.Proofs.YtfkmmpfdncopdaaGreat
open Go.RowKit
set_option maxRecDepth 100000
set_option maxHeartbeats 4000000
theorem HV (l:List ByteArray)(b:Nat)(h:(l.all fun x=>decide (x.size≤b))=true)(i:Nat):((l[i]?).getD ByteArray.empty).size≤b:=by
  cases hc:l[i]? with
  | none=>exact aS _
  | some x=>exact ae (aw.1 h x (ao hc))
abbrev B01:List ByteArray:=[⟨#[48]⟩,⟨#[49]⟩]
def c1G (code:List UInt8):Nat→ByteArray×Int×Int→ByteArray×Int×Int
  | 0,st=>st
  | k+1,st=>c1G code k (st.1++(B01[(pkV code st.2.1 st.2.2 (B01.length:Int)).toNat]?).getD ByteArray.empty,pkA (B01.length:Int) st.2.1,pkS code st.2.1 st.2.2 (B01.length:Int))
def c1V (code:List UInt8)(n at_ sd:Int):ByteArray×Int×Int:=c1G code n.toNat (⟨#[]⟩,at_,sd)
theorem Qnw {code:List UInt8}{n k a_ sd_:Int}{t_:ByteArray}{z:ByteArray×Int×Int}(h:k < n)(hC:z=c1G code (n - k).toNat (t_,a_,sd_)):
    z=c1G code (n - (k+1)).toNat (t_++(B01[(pkV code a_ sd_ (B01.length:Int)).toNat]?).getD ByteArray.empty,pkA (B01.length:Int) a_,pkS code a_ sd_ (B01.length:Int)):=by
  rw[hC,show (n - k).toNat=(n - (k+1)).toNat+1 by omega,c1G]
theorem JN {code:List UInt8}{n k a_ sd_:Int}{t_:ByteArray}{z:ByteArray×Int×Int}(h:¬k < n)(hC:z=c1G code (n - k).toNat (t_,a_,sd_)):z=(t_,a_,sd_):=by
  rw[hC,show (n - k).toNat=0 by omega,c1G]
theorem UV (code:List UInt8)(at_:Int)(sd:Int)(n:Int)(ha:0≤at_∧at_≤900000000)(hn:0≤n∧n≤8):FC Tryz.prog 80 [(false,[.ptr 0 0]),(false,[dI n])] [bx 0 93 [.dat (.sl 5 .u8) code,dI at_, .val (.int .u64 sd)]] 1 (Is (lf (dS ((c1V code n at_ sd).1))) [bx 0 93 [.dat (.sl 5 .u8) code,dI ((c1V code n at_ sd).2.1), .val (.int .u64 ((c1V code n at_ sd).2.2))]]):=by
 refine Qj Tryz.func80 rfl rfl Tryz.ntmps80 fun O_ hO w0_ N0_ X_ h0_ f0_=> ?_
 refine acI 1 fun hi1=> ?_
 iterate 11 refine w_ ?_
 refine QE (fun m_ s_=>∃(k_:Int) (t_:ByteArray) (a_:Int) (sd_:Int),m_=(n - k_).toNat∧(0≤k_∧k_≤n)∧((t_.size:Int)≤k_)∧(at_≤a_∧a_≤at_+2*k_)∧((c1V code n at_ sd)=c1G code (n - k_).toNat (t_,a_,sd_))∧s_=⟨[(0,lP 0 0),(1,lI n),(4,lf (dS (⟨#[]⟩:ByteArray))),(5,lf (dS t_)),(6,lI k_)],[bx 0 93 [.dat (.sl 5 .u8) code,dI a_, .val (.int .u64 sd_)]]⟩) ⟨0,(⟨#[]⟩:ByteArray),at_,sd,rfl,by omega,(d8 _),by omega,(by unfold c1V; rw[Int.sub_zero]),rfl⟩ ?_ ?_
 · exact Wk.of [] rfl ⟨rfl,rfl,rfl,rfl,rfl,trivial⟩ ⟨rfl,trivial⟩ rfl rfl
 rintro m_ s_ ⟨k_,t_,a_,sd_,hm3,hk,hs,hb,hC,rfl⟩
 iterate 6 refine w_ ?_
 cases hb4:(decide (k_ < n))
 ·have hb4':=ab hb4
  refine w_ ?_
  refine Qi ?_
  refine (?_:AC _ _ _ _ _)
  iterate 4 refine w_ ?_
  refine Qb ?_
  have e5:(t_:ByteArray)=((c1V code n at_ sd).1):=by
   first | (rw[JN (by omega) hC]) | (rw[JN (by omega) hC]; done)
  exact fi_ [] hO ⟨(((congrArg (fun z_=>some (Ent.box 93 [.dat (.sl 5 .u8) code,dI z_, .val (.int .u64 sd_)])) (show (a_:Int)=((c1V code n at_ sd).2.1) by first | (rw[JN (by omega) hC]) | (rw[JN (by omega) hC]; done)))).trans (congrArg (fun z_:Int=>some (Ent.box 93 [.dat (.sl 5 .u8) code,dI ((c1V code n at_ sd).2.1), .val (.int .u64 z_)])) (show (sd_:Int)=((c1V code n at_ sd).2.2) by first | (rw[JN (by omega) hC]) | (rw[JN (by omega) hC]; done)))),trivial⟩ (h0:=(congrArg (fun z_=>lf (dS z_)) e5))
 ·have hb4':=ae hb4
  iterate 7 refine w_ ?_
  refine lc (dBs 1 (e:= .str) ZZ) ?_
  have hp6:=Zj code a_ sd_ (([(⟨#[48]⟩:ByteArray),(⟨#[49]⟩:ByteArray)]).length:Int)
  refine lc (dP 2 [] (Xp code a_ sd_ ([(⟨#[48]⟩:ByteArray),(⟨#[49]⟩:ByteArray)]) (by omega) (by decide)) Kf) ?_
  refine lc (QH (Qa rfl) (Qa rfl) rfl (by (refine bn (bV (HV [(⟨#[48]⟩:ByteArray),(⟨#[49]⟩:ByteArray)] 1 (by decide+kernel) _) _) ?_; omega))) ?_
  refine w_ ?_
  refine Qd ?_
  refine (?_:AC _ _ _ _ _)
  iterate 4 refine w_ ?_
  refine Qd ?_
  refine Q5 ⟨(k_+1),(t_++((([(⟨#[48]⟩:ByteArray),(⟨#[49]⟩:ByteArray)])[(pkV code a_ sd_ (([(⟨#[48]⟩:ByteArray),(⟨#[49]⟩:ByteArray)]).length:Int)).toNat]?).getD ByteArray.empty)),(pkA (([(⟨#[48]⟩:ByteArray),(⟨#[49]⟩:ByteArray)]).length:Int) a_),(pkS code a_ sd_ (([(⟨#[48]⟩:ByteArray),(⟨#[49]⟩:ByteArray)]).length:Int)),rfl,by omega,(by rw[aK]; refine Int.le_trans (Int.ofNat_le.2 (bV (HV [(⟨#[48]⟩:ByteArray),(⟨#[49]⟩:ByteArray)] 1 (by decide+kernel) _) _)) ?_; omega),(by omega),(Qnw (by omega) hC),rfl⟩ (by omega) ?_
  exact Wk.of [] rfl ⟨rfl,rfl,rfl,rfl,rfl,trivial⟩ ⟨rfl,trivial⟩ rfl rfl
theorem Kl (code:List UInt8)(at_:Int)(sd:Int)(n:Int)(ha:0≤at_∧at_≤900000000)(hn:0≤n∧n≤8):FC Tryz.prog 114 [(false,[.ptr 0 0]),(false,[dI n])] [bx 0 93 [.dat (.sl 5 .u8) code,dI at_, .val (.int .u64 sd)]] 1 (Ex (fun x:ByteArray×Int×Int=>x.1.size≤8∧(at_≤x.2.1∧x.2.1≤at_+16)) (fun x:ByteArray×Int×Int=>lf (dS x.1)) (fun x:ByteArray×Int×Int=>[bx 0 93 [.dat (.sl 5 .u8) code,dI x.2.1, .val (.int .u64 x.2.2)]])):=by
 refine Qj Tryz.func114 rfl rfl Tryz.ntmps114 fun O_ hO w0_ N0_ X_ h0_ f0_=> ?_
 refine acI 1 fun hi1=> ?_
 iterate 11 refine w_ ?_
 refine QE (fun m_ s_=>∃(k_:Int) (t_:ByteArray) (a_:Int) (sd_:Int),m_=(n - k_).toNat∧(0≤k_∧k_≤n)∧((t_.size:Int)≤k_)∧(at_≤a_∧a_≤at_+2*k_)∧s_=⟨[(0,lP 0 0),(1,lI n),(4,lf (dS (⟨#[]⟩:ByteArray))),(5,lf (dS t_)),(6,lI k_)],[bx 0 93 [.dat (.sl 5 .u8) code,dI a_, .val (.int .u64 sd_)]]⟩) ⟨0,(⟨#[]⟩:ByteArray),at_,sd,rfl,by omega,(d8 _),by omega,rfl⟩ ?_ ?_
 · exact Wk.of [] rfl ⟨rfl,rfl,rfl,rfl,rfl,trivial⟩ ⟨rfl,trivial⟩ rfl rfl
 rintro m_ s_ ⟨k_,t_,a_,sd_,hm3,hk,hs,hb,rfl⟩
 iterate 6 refine w_ ?_
 cases hb4:(decide (k_ < n))
 ·have hb4':=ab hb4
  refine w_ ?_
  refine Qi ?_
  refine (?_:AC _ _ _ _ _)
  iterate 4 refine w_ ?_
  refine Qb ?_
  subst hO
  refine QJ (x:=(t_,(a_,sd_))) [(0,0)] ?_ (Res.one rfl (Zf rfl)) rfl ⟨rfl,trivial⟩ rfl rfl
  (dsimp only; omega)
 ·have hb4':=ae hb4
  iterate 7 refine w_ ?_
  refine lc (dBs 1 (e:= .str) ZZ) ?_
  have hp5:=Zj code a_ sd_ (([(⟨#[48]⟩:ByteArray),(⟨#[49]⟩:ByteArray),(⟨#[45]⟩:ByteArray)]).length:Int)
  refine lc (dP 2 [] (Xp code a_ sd_ ([(⟨#[48]⟩:ByteArray),(⟨#[49]⟩:ByteArray),(⟨#[45]⟩:ByteArray)]) (by omega) (by decide)) Kf) ?_
  refine lc (QH (Qa rfl) (Qa rfl) rfl (by (refine bn (bV (HV [(⟨#[48]⟩:ByteArray),(⟨#[49]⟩:ByteArray),(⟨#[45]⟩:ByteArray)] 1 (by decide+kernel) _) _) ?_; omega))) ?_
  refine w_ ?_
  refine Qd ?_
  refine (?_:AC _ _ _ _ _)
  iterate 4 refine w_ ?_
  refine Qd ?_
  refine Q5 ⟨(k_+1),(t_++((([(⟨#[48]⟩:ByteArray),(⟨#[49]⟩:ByteArray),(⟨#[45]⟩:ByteArray)])[(pkV code a_ sd_ (([(⟨#[48]⟩:ByteArray),(⟨#[49]⟩:ByteArray),(⟨#[45]⟩:ByteArray)]).length:Int)).toNat]?).getD ByteArray.empty)),(pkA (([(⟨#[48]⟩:ByteArray),(⟨#[49]⟩:ByteArray),(⟨#[45]⟩:ByteArray)]).length:Int) a_),(pkS code a_ sd_ (([(⟨#[48]⟩:ByteArray),(⟨#[49]⟩:ByteArray),(⟨#[45]⟩:ByteArray)]).length:Int)),rfl,by omega,(by rw[aK]; refine Int.le_trans (Int.ofNat_le.2 (bV (HV [(⟨#[48]⟩:ByteArray),(⟨#[49]⟩:ByteArray),(⟨#[45]⟩:ByteArray)] 1 (by decide+kernel) _) _)) ?_; omega),(by omega),rfl⟩ (by omega) ?_
  exact Wk.of [] rfl ⟨rfl,rfl,rfl,rfl,rfl,trivial⟩ ⟨rfl,trivial⟩ rfl rfl
end Go.Proofs.YtfkmmpfdncopdaaGreat
namespace Go.Proofs.YtfkmmpfdncopdaaGreat
open Go.RowKit
set_option maxRecDepth 100000
set_option maxHeartbeats 4000000
theorem QqT {l:List ByteArray}{x:ByteArray}{b:Nat}(h:∀c∈l,c.size≤b)(hx:x.size≤b):∀c∈l++[x],c.size≤b:=fun c hc=>by
  rcases aH.1 hc with h1 | h1
  · exact h c h1
  · rw[aE] at h1; subst h1; exact hx
theorem UY (code:List UInt8)(at_:Int)(sd:Int)(n:Int)(ha:0≤at_∧at_≤800000000)(hn:0≤n∧n≤8):FC Tryz.prog 123 [(false,[.ptr 0 0]),(false,[dI n])] [bx 0 93 [.dat (.sl 5 .u8) code,dI at_, .val (.int .u64 sd)]] 1 (Ex (fun x:List ByteArray×Int×Int=>x.1.length≤4∧(at_≤x.2.1∧x.2.1≤at_+100)) (fun x:List ByteArray×Int×Int=>lR 1) (fun x:List ByteArray×Int×Int=>[bx 0 93 [.dat (.sl 5 .u8) code,dI x.2.1, .val (.int .u64 x.2.2)],ar 1 9 .str x.1])):=by
 refine Qj Tryz.func123 rfl rfl Tryz.ntmps123 fun O_ hO w0_ N0_ X_ h0_ f0_=> ?_
 refine acI 1 fun hi1=> ?_
 iterate 9 refine w_ ?_
 have hp2:=Zj code at_ sd 5
 refine lc (dP 1 [] (Qp code at_ sd 5 (by omega)) Zd) ?_
 iterate 3 refine w_ ?_
 refine AC.wk (Wk.nilS 2 5 9 .str rfl (Fresh.of rfl) (nlr rfl)) ?_
 refine QE (fun m_ s_=>∃(k_:Int) (l_:List ByteArray) (a_:Int) (sd_:Int),m_=k_.toNat∧(0≤k_∧k_≤4)∧((l_.length:Int)+k_≤4)∧(∀c∈l_,c.size≤8)∧(at_≤a_∧a_+16*k_≤at_+66)∧s_=⟨[(0,lP 0 0),(1,lI n),(4,lf (.val (.slice none 0 0))),(5,lR 3),(6,lI k_)],[bx 0 93 [.dat (.sl 5 .u8) code,dI a_, .val (.int .u64 sd_)],ar 3 9 .str l_]⟩) ⟨pkV code at_ sd 5,([]:((.sl 9 .str):Ty).Den),(pkA 5 at_),(pkS code at_ sd 5),rfl,by omega,(by simp only[aD]; omega),(fun c hc=>by cases hc),by omega,rfl⟩ ?_ ?_
 · exact Wk.of [(3,2)] rfl ⟨rfl,rfl,rfl,rfl,rfl,trivial⟩ ⟨rfl,(Qk (by first | rfl | simp)),trivial⟩ rfl rfl
 rintro m_ s_ ⟨k_,l_,a_,sd_,hm4,hk,hl,hz,hb,rfl⟩
 iterate 5 refine w_ ?_
 cases hb5:(decide (0 < k_))
 ·have hb5':=ab hb5
  refine w_ ?_
  refine Qi ?_
  refine (?_:AC _ _ _ _ _)
  iterate 6 refine w_ ?_
  cases hb6:(decide (0 < (l_.length:Int)))
  ·have hb6':=ab hb6
   iterate 10 refine w_ ?_
   refine Qb ?_
   subst hO
   refine QJ (x:=(l_,(a_,sd_))) [(0,0),(1,3)] ?_ (Res.one rfl (Zf rfl)) rfl ⟨rfl,rfl,trivial⟩ rfl rfl
   (dsimp only; first | omega | (simp only[aA]; omega))
  ·have hb6':=ae hb6
   refine w_ ?_
   have hp7:=Zj code a_ sd_ 15
   refine lgy rfl rfl (dP 4 [] (Z4 code a_ sd_ 15 (by omega)) WQ) ?_
   iterate 2 refine w_ ?_
   refine cd_ (fun hb8 hb8'=> ?_) fun hb8 hb8'=> ?_
   ·iterate 5 refine w_ ?_
    refine Qb ?_
    subst hO
    refine QJ (x:=(l_,((pkA 15 a_),(pkS code a_ sd_ 15)))) [(0,0),(1,3)] ?_ (Res.one rfl (Zf rfl)) rfl ⟨rfl,rfl,trivial⟩ rfl rfl
    (dsimp only; first | omega | (simp only[aA]; omega))
   ·iterate 5 refine w_ ?_
    obtain ⟨l0,hx10⟩:∃z,l_[0]? =some z:=⟨_,aa (by omega)⟩
    have hsl0:=hz _ (ao hx10)
    refine w_ ?_
    refine lc (QH (Qa rfl) (Evl.str rfl) rfl (by first | omega | (simp only[ZB]; omega))) ?_
    refine lc (dBs 5 (e:= .str) ZZ) ?_
    have hp11:=Zj code (pkA 15 a_) (pkS code a_ sd_ 15) (([(⟨#[]⟩:ByteArray),(⟨#[120]⟩:ByteArray),l0++(⟨#[49]⟩:ByteArray)]).length:Int)
    refine lc (dP 6 [(1,5)] (Xp code (pkA 15 a_) (pkS code a_ sd_ 15) ([(⟨#[]⟩:ByteArray),(⟨#[120]⟩:ByteArray),l0++(⟨#[49]⟩:ByteArray)]) (by omega) (Nat.succ_le_succ (aS _))) Kf) ?_
    refine w_ ?_
    refine lc (Qs (e:= .str) (z':=(([(⟨#[]⟩:ByteArray),(⟨#[120]⟩:ByteArray),l0++(⟨#[49]⟩:ByteArray)])[(pkV code (pkA 15 a_) (pkS code a_ sd_ 15) (([(⟨#[]⟩:ByteArray),(⟨#[120]⟩:ByteArray),l0++(⟨#[49]⟩:ByteArray)]).length:Int)).toNat]?).getD ByteArray.empty) (Qa rfl) rfl hx10 rfl (Qm rfl) rfl ZM rfl rfl) ?_
    iterate 5 refine w_ ?_
    refine Qb ?_
    subst hO
    refine QJ (x:=(l_.set 0 ((([(⟨#[]⟩:ByteArray),(⟨#[120]⟩:ByteArray),l0++(⟨#[49]⟩:ByteArray)])[(pkV code (pkA 15 a_) (pkS code a_ sd_ 15) (([(⟨#[]⟩:ByteArray),(⟨#[120]⟩:ByteArray),l0++(⟨#[49]⟩:ByteArray)]).length:Int)).toNat]?).getD ByteArray.empty),((pkA (([(⟨#[]⟩:ByteArray),(⟨#[120]⟩:ByteArray),l0++(⟨#[49]⟩:ByteArray)]).length:Int) (pkA 15 a_)),(pkS code (pkA 15 a_) (pkS code a_ sd_ 15) (([(⟨#[]⟩:ByteArray),(⟨#[120]⟩:ByteArray),l0++(⟨#[49]⟩:ByteArray)]).length:Int))))) [(0,0),(1,3)] ?_ (Res.one rfl (Zf rfl)) rfl ⟨rfl,rfl,trivial⟩ rfl rfl
    (dsimp only; first | omega | (simp only[aA]; omega))
 ·have hb5':=ae hb5
  iterate 8 refine w_ ?_
  refine Q4 8 [(0,0)] (Kl code a_ sd_ n (by omega) hn) Qfn e2_ ⟨rfl,trivial⟩ rfl (fun _=>rfl) (fun _=>⟨trivial,trivial⟩) (nlr rfl) fun x12 hx13=> ?_
  refine lc (dBs 9 (e:= .str) ZZ) ?_
  refine lc (dA 10 YS) ?_
  refine w_ ?_
  refine Qd ?_
  refine (?_:AC _ _ _ _ _)
  iterate 4 refine w_ ?_
  refine Qd<|Q5 ⟨(k_ - 1),(l_++([x12.1])),x12.2.1,x12.2.2,rfl,by omega,(by simp only[ak,aq,aD]; omega),(QqT hz (by have h_:=‹ByteArray.size _≤8∧_›; exact h_.1)),(by have h_:=‹ByteArray.size _≤8∧_›; omega),rfl⟩ (by omega) ?_
  exact Wk.of [(3,10)] rfl ⟨rfl,rfl,rfl,rfl,rfl,trivial⟩ ⟨rfl,(Qk (by first | rfl | simp)),trivial⟩ rfl rfl
theorem WP (code:List UInt8):FC Tryz.prog 70 [(false,[.dat (.sl 5 .u8) code])] [] 0 (Ex (fun x:List ByteArray=>x.length≤4) (fun x:List ByteArray=>lR 0) (fun x:List ByteArray=>[ar 0 9 .str x])):=by
 refine Qj Tryz.func70 rfl rfl Tryz.ntmps70 fun O_ hO w0_ N0_ X_ h0_ f0_=> ?_
 iterate 5 refine w_ ?_
 refine lc (WD [.val (.slice none 0 0),dI 0, .val (.int .u64 0)] (HK (offs:=[(0,1),(1,1),(2,1)]) (zs:=[.slice none 0 0, .int .i64 0, .int .u64 0]) Tryz.underlying93 (by kernel_rfl) (by kernel_rfl)) (fun _ _ _=>⟨_,_,rfl,rfl,⟨_,_,rfl,(Y2 _ _ _ .int).one rfl,⟨_,_,rfl,rfl,rfl⟩⟩⟩) ⟨_,_,rfl,(Qm rfl),rfl⟩ (aw.1 rfl) rfl rfl) ?_
 refine xbx 0 ?_
 iterate 5 refine w_ ?_
 have hp1:=Zj code 0 0 4
 refine lc (dP 1 [] (Qp code 0 0 4 (by omega)) Zd) ?_
 refine w_ ?_
 refine Q4 2 [(0,0)] (UY code (pkA 4 0) (pkS code 0 0 4) (1+(pkV code 0 0 4)) (by omega) (by omega)) QfR e2_ ⟨rfl,trivial⟩ rfl (fun _=>rfl) (fun _=>⟨trivial,(Fresh.of rfl),trivial⟩) (nlr rfl) fun x2 hx3=> ?_
 iterate 2 refine w_ ?_
 refine Qb ?_
 subst hO
 refine QJ (x:=x2.1) [(0,3)] ?_ (Res.one rfl (Zf rfl)) rfl ⟨rfl,trivial⟩ rfl rfl
 (have h_:=‹_≤4∧_›; exact h_.1)
theorem XZ (code:List UInt8):FC Tryz.prog 13 [(false,[.dat (.sl 5 .u8) code])] [] 0 (Ex (fun x:List ByteArray=>x.length≤4) (fun x:List ByteArray=>lR 0) (fun x:List ByteArray=>[ar 0 9 .str x])):=by
 refine Qj Tryz.func13 rfl rfl Tryz.ntmps13 fun O_ hO w0_ N0_ X_ h0_ f0_=> ?_
 iterate 5 refine w_ ?_
 refine Q4 0 [] (WP code) Qjv e1_ trivial rfl (fun _=>rfl) (fun _=>⟨(Fresh.of rfl),trivial⟩) (nlr rfl) fun x1 hx2=> ?_
 iterate 2 refine w_ ?_
 refine Qb ?_
 subst hO
 refine QJ (x:=x1) [(0,0)] ?_ (Res.one rfl (Zf rfl)) rfl ⟨rfl,trivial⟩ rfl rfl
 assumption
theorem UT (code:List UInt8)(at_:Int)(sd:Int)[∀s,Decidable (StgOk s)][∀s,Decidable (YP s)](ha:0≤at_∧at_≤600000000):FC Tryz.prog 78 [(false,[.ptr 0 0])] [bx 0 93 [.dat (.sl 5 .u8) code,dI at_, .val (.int .u64 sd)]] 1 (Ex (fun x:(DSg×Int)×Int×Int=>x.1.1.1.length≤8∧(1≤x.1.1.2.1.length∧x.1.1.2.1.length≤301)∧(at_≤x.2.1∧x.2.1≤at_+130)) (fun x:(DSg×Int)×Int×Int=>PV.tup [(true,[.dat (.sl 203 (.pr .str .int)) x.1.1.1, .dat (.sl 9 .str) x.1.1.2.1, .dat (.sl 136 (.pr .int (.pr .int (.pr .bool .int)))) x.1.1.2.2]),(false,[dI x.1.2])]) (fun x:(DSg×Int)×Int×Int=>[bx 0 93 [.dat (.sl 5 .u8) code,dI x.2.1, .val (.int .u64 x.2.2)]])):=by
 refine Qj Tryz.func78 rfl rfl Tryz.ntmps78 fun O_ hO w0_ N0_ X_ h0_ f0_=> ?_
 refine w_ ?_
 refine lc (xal 1 (.pr (.sl 203 (.pr .str .int)) (.pr (.sl 9 .str) (.sl 136 (.pr .int (.pr .int (.pr .bool .int)))))) Yr) ?_
 iterate 4 refine w_ ?_
 refine Q4 2 [(0,0)] (Xf code at_ sd (by omega)) QcR e1_ ⟨rfl,trivial⟩ rfl (fun _=>rfl) (fun _=>⟨trivial,trivial⟩) (nlr rfl) fun x1 hx2=>lc (xal 3 (.pr (.sl 203 (.pr .str .int)) (.pr (.sl 9 .str) (.sl 136 (.pr .int (.pr .int (.pr .bool .int)))))) Yr) ?_
 iterate 4 refine w_ ?_
 refine lc (dK (Hp x1.1 (by have h_:=‹_≤8∧_›; omega)).frozen QfI) ?_
 iterate 5 refine w_ ?_
 refine alL 10 fun hl3=> ?_
 iterate 3 refine w_ ?_
 cases hb4:(decide (0 < ((Yk x1.1.1 x1.1.1.length).length:Int)))
 ·have hb4':=ab hb4
  iterate 7 refine w_ ?_
  have hp5:=Zj code x1.2.1 x1.2.2 5
  apply dW (i2 26 _ _ [⟨some 28,lI (pkV code x1.2.1 x1.2.2 5),[bx 0 93 [.dat (.sl 5 .u8) code,dI (pkA 5 x1.2.1), .val (.int .u64 (pkS code x1.2.1 x1.2.2 5))],(0,none)]⟩,io 29 _,⟨none,lf (.val undef),[bx 1 28 [.dat (.sl 203 (.pr .str .int)) x1.1.1, .dat (.sl 9 .str) x1.1.2.1, .dat (.sl 136 (.pr .int (.pr .int (.pr .bool .int)))) x1.1.2.2]]⟩,io 3 _]) [0,1,1,1,8,0]
  iterate 2 refine z_ ?_
  refine zz (fun _ h_=>ac (dP 4 [] (Qp code x1.2.1 x1.2.2 5 (by omega)) Zd) rfl) ?_
  iterate 3 refine z_ ?_
  exact zN
  refine Qb ?_
  subst hO
  refine QJ (x:=(((x1.1.1,(x1.1.2.1,x1.1.2.2)),(pkV code x1.2.1 x1.2.2 5) - 1),((pkA 5 x1.2.1),(pkS code x1.2.1 x1.2.2 5)))) [(0,0)] ?_ (Yn rfl (QD rfl rfl YL rfl) (Zf rfl)) rfl ⟨rfl,trivial⟩ rfl rfl
  (dsimp only; have h_:=‹_≤8∧_›; omega)
 ·have hb4':=ae hb4
  refine w_ ?_
  have hp6:=Zj code x1.2.1 x1.2.2 8
  refine lgy rfl rfl (dP 5 [] (Z4 code x1.2.1 x1.2.2 8 (by omega)) WQ) ?_
  iterate 3 refine w_ ?_
  cases hb7:(decide (pkV code x1.2.1 x1.2.2 8=0))
  ·have hb7':=ab hb7
   refine w_ ?_
   have hp8:=Zj code (pkA 8 x1.2.1) (pkS code x1.2.1 x1.2.2 8) ((Yk x1.1.1 x1.1.1.length).length:Int)
   obtain ⟨x9,hx10⟩:∃z,(Yk x1.1.1 x1.1.1.length)[(pkV code (pkA 8 x1.2.1) (pkS code x1.2.1 x1.2.2 8) ((Yk x1.1.1 x1.1.1.length).length:Int)).toNat]? =some z:=⟨_,aa (by omega)⟩
   apply dW (i5 18 _ _ _ _ _ (⟨some 23,lI (pkV code (pkA 8 x1.2.1) (pkS code x1.2.1 x1.2.2 8) ((Yk x1.1.1 x1.1.1.length).length:Int)),[bx 0 93 [.dat (.sl 5 .u8) code,dI (pkA ((Yk x1.1.1 x1.1.1.length).length:Int) (pkA 8 x1.2.1)), .val (.int .u64 (pkS code (pkA 8 x1.2.1) (pkS code x1.2.1 x1.2.2 8) ((Yk x1.1.1 x1.1.1.length).length:Int)))],(0,none)]⟩ :: i2 24 _ _ [⟨none,lf (.val undef),[bx 1 28 [.dat (.sl 203 (.pr .str .int)) x1.1.1, .dat (.sl 9 .str) x1.1.2.1, .dat (.sl 136 (.pr .int (.pr .int (.pr .bool .int)))) x1.1.2.2]]⟩,io 3 _])) [0,1,3,7,7,3,1,1,194,0]
   iterate 5 refine z_ ?_
   refine zz (fun _ h_=>ac (dP 6 [] (Qp code (pkA 8 x1.2.1) (pkS code x1.2.1 x1.2.2 8) ((Yk x1.1.1 x1.1.1.length).length:Int) (by omega)) Zd) rfl) ?_
   iterate 4 refine z_ ?_
   exact zN
   refine Qb ?_
   subst hO
   refine QJ (x:=(((x1.1.1,(x1.1.2.1,x1.1.2.2)),x9),((pkA ((Yk x1.1.1 x1.1.1.length).length:Int) (pkA 8 x1.2.1)),(pkS code (pkA 8 x1.2.1) (pkS code x1.2.1 x1.2.2 8) ((Yk x1.1.1 x1.1.1.length).length:Int))))) [(0,0)] ?_ (Yn rfl (QD rfl rfl YL rfl) (Zf rfl)) rfl ⟨rfl,trivial⟩ rfl rfl
   (dsimp only; have h_:=‹_≤8∧_›; omega)
  ·have hb7':=ae hb7
   iterate 2 refine w_ ?_
   have hp11:=Zj code (pkA 8 x1.2.1) (pkS code x1.2.1 x1.2.2 8) 5
   apply dW (i2 26 _ _ [⟨some 28,lI (pkV code (pkA 8 x1.2.1) (pkS code x1.2.1 x1.2.2 8) 5),[bx 0 93 [.dat (.sl 5 .u8) code,dI (pkA 5 (pkA 8 x1.2.1)), .val (.int .u64 (pkS code (pkA 8 x1.2.1) (pkS code x1.2.1 x1.2.2 8) 5))],(0,none)]⟩,io 29 _,⟨none,lf (.val undef),[bx 1 28 [.dat (.sl 203 (.pr .str .int)) x1.1.1, .dat (.sl 9 .str) x1.1.2.1, .dat (.sl 136 (.pr .int (.pr .int (.pr .bool .int)))) x1.1.2.2]]⟩,io 3 _]) [0,1,1,1,8,0]
   iterate 2 refine z_ ?_
   refine zz (fun _ h_=>ac (dP 7 [] (Qp code (pkA 8 x1.2.1) (pkS code x1.2.1 x1.2.2 8) 5 (by omega)) Zd) rfl) ?_
   iterate 3 refine z_ ?_
   exact zN
   refine Qb ?_
   subst hO
   refine QJ (x:=(((x1.1.1,(x1.1.2.1,x1.1.2.2)),(pkV code (pkA 8 x1.2.1) (pkS code x1.2.1 x1.2.2 8) 5) - 1),((pkA 5 (pkA 8 x1.2.1)),(pkS code (pkA 8 x1.2.1) (pkS code x1.2.1 x1.2.2 8) 5)))) [(0,0)] ?_ (Yn rfl (QD rfl rfl YL rfl) (Zf rfl)) rfl ⟨rfl,trivial⟩ rfl rfl
   (dsimp only; have h_:=‹_≤8∧_›; omega)
theorem XR (code:List UInt8)[∀s,Decidable (StgOk s)][∀s,Decidable (YP s)]:FC Tryz.prog 8 [(false,[.dat (.sl 5 .u8) code])] [] 0 (Ex (fun x:DSg=>x.1.length≤8) (fun x:DSg=>ag [.dat (.sl 203 (.pr .str .int)) x.1, .dat (.sl 9 .str) x.2.1, .dat (.sl 136 (.pr .int (.pr .int (.pr .bool .int)))) x.2.2]) (fun x:DSg=>[])):=by
 refine Qj Tryz.func8 rfl rfl Tryz.ntmps8 fun O_ hO w0_ N0_ X_ h0_ f0_=> ?_
 refine w_ ?_
 refine lc (xal 0 (.pr (.sl 203 (.pr .str .int)) (.pr (.sl 9 .str) (.sl 136 (.pr .int (.pr .int (.pr .bool .int)))))) Yr) ?_
 iterate 3 refine w_ ?_
 refine lc (WD [.val (.slice none 0 0),dI 0, .val (.int .u64 0)] (HK (offs:=[(0,1),(1,1),(2,1)]) (zs:=[.slice none 0 0, .int .i64 0, .int .u64 0]) Tryz.underlying93 (by kernel_rfl) (by kernel_rfl)) (fun _ _ _=>⟨_,_,rfl,rfl,⟨_,_,rfl,(Y2 _ _ _ .int).one rfl,⟨_,_,rfl,rfl,rfl⟩⟩⟩) ⟨_,_,rfl,(Qm rfl),rfl⟩ (aw.1 rfl) rfl rfl) ?_
 refine xbx 1 ?_
 iterate 4 refine w_ ?_
 refine Q4 2 [(0,1)] (Xf code 0 0 (by omega)) QcR e1_ ⟨rfl,trivial⟩ rfl (fun _=>rfl) (fun _=>⟨trivial,trivial⟩) (nlr rfl) fun x1 hx2=> ?_
 iterate 2 refine w_ ?_
 refine Qb ?_
 subst hO
 refine QJ (x:=(x1.1.1,(x1.1.2.1,x1.1.2.2))) [] ?_ (Res.one rfl (QD rfl rfl YL rfl)) rfl trivial rfl rfl
 (have h_:=‹_≤8∧_›; exact h_.1)
theorem Z0 (code:List UInt8)[∀s,Decidable (StgOk s)][∀s,Decidable (YP s)]:FC Tryz.prog 20 [(false,[.dat (.sl 5 .u8) code])] [] 0 (Ex (fun x:DSg×ByteArray×Int=>x.1.1.length≤8) (fun x:DSg×ByteArray×Int=>PV.tup [(true,[.dat (.sl 203 (.pr .str .int)) x.1.1, .dat (.sl 9 .str) x.1.2.1, .dat (.sl 136 (.pr .int (.pr .int (.pr .bool .int)))) x.1.2.2]),(false,[dS x.2.1]),(false,[dI x.2.2])]) (fun x:DSg×ByteArray×Int=>[])):=by
 refine Qj Tryz.func20 rfl rfl Tryz.ntmps20 fun O_ hO w0_ N0_ X_ h0_ f0_=> ?_
 refine w_ ?_
 refine lc (xal 0 (.pr (.sl 203 (.pr .str .int)) (.pr (.sl 9 .str) (.sl 136 (.pr .int (.pr .int (.pr .bool .int)))))) Yr) ?_
 iterate 5 refine w_ ?_
 refine lc (WD [.val (.slice none 0 0),dI 0, .val (.int .u64 0)] (HK (offs:=[(0,1),(1,1),(2,1)]) (zs:=[.slice none 0 0, .int .i64 0, .int .u64 0]) Tryz.underlying93 (by kernel_rfl) (by kernel_rfl)) (fun _ _ _=>⟨_,_,rfl,rfl,⟨_,_,rfl,(Y2 _ _ _ .int).one rfl,⟨_,_,rfl,rfl,rfl⟩⟩⟩) ⟨_,_,rfl,(Qm rfl),rfl⟩ (aw.1 rfl) rfl rfl) ?_
 refine xbx 1 ?_
 iterate 4 refine w_ ?_
 refine Q4 2 [(0,1)] (UT code 0 0 (by omega)) QiE e1_ ⟨rfl,trivial⟩ rfl (fun _=>rfl) (fun _=>⟨trivial,trivial⟩) (nlr rfl) fun x1 hx2=> ?_
 iterate 3 refine w_ ?_
 refine lc (xal 3 (.pr (.sl 203 (.pr .str .int)) (.pr (.sl 9 .str) (.sl 136 (.pr .int (.pr .int (.pr .bool .int)))))) Yr) ?_
 iterate 6 refine w_ ?_
 have hp3:=Zj code x1.2.1 x1.2.2 3
 refine lc (dP 4 [(0,1)] (Z4 code x1.2.1 x1.2.2 3 (by omega)) WQ) ?_
 refine w_ ?_
 refine cd_ (fun hb4 hb4'=> ?_) fun hb4 hb4'=> ?_
 ·refine w_ ?_
  have hp5:=Zj code (pkA 3 x1.2.1) (pkS code x1.2.1 x1.2.2 3) (x1.1.1.2.1.length:Int)
  obtain ⟨x6,hx7⟩:∃z,x1.1.1.2.1[(pkV code (pkA 3 x1.2.1) (pkS code x1.2.1 x1.2.2 3) (x1.1.1.2.1.length:Int)).toNat]? =some z:=⟨_,aa (by omega)⟩
  apply dW (i7 25 _ _ _ _ _ _ _ (⟨some 32,lI (pkV code (pkA 3 x1.2.1) (pkS code x1.2.1 x1.2.2 3) (x1.1.1.2.1.length:Int)),[bx 1 93 [.dat (.sl 5 .u8) code,dI (pkA (x1.1.1.2.1.length:Int) (pkA 3 x1.2.1)), .val (.int .u64 (pkS code (pkA 3 x1.2.1) (pkS code x1.2.1 x1.2.2 3) (x1.1.1.2.1.length:Int)))],(1,none)]⟩ :: i2 33 _ _ (io 35 (lI x1.1.2) :: ⟨none,lf (.val undef),[bx 0 28 [.dat (.sl 203 (.pr .str .int)) x1.1.1.1, .dat (.sl 9 .str) x1.1.1.2.1, .dat (.sl 136 (.pr .int (.pr .int (.pr .bool .int)))) x1.1.1.2.2]]⟩ :: i2 3 _ _ []))) [0,1,1,7,15,15,15,7,1,1,1023,1798,1024,0]
  iterate 7 refine z_ ?_
  refine zz (fun _ h_=>ac (dP 5 [(0,1)] (Qp code (pkA 3 x1.2.1) (pkS code x1.2.1 x1.2.2 3) (x1.1.1.2.1.length:Int) (by omega)) Zd) rfl) ?_
  iterate 6 refine z_ ?_
  exact zN
  refine Qb ?_
  subst hO
  refine QJ (x:=((x1.1.1.1,(x1.1.1.2.1,x1.1.1.2.2)),(x6,x1.1.2))) [] ?_ (X5 rfl (QD rfl rfl YL rfl) (Zf rfl) (Zf rfl)) rfl trivial rfl rfl
  (have h_:=‹_≤8∧(1≤_∧_)∧_›; exact h_.1)
 ·apply dW (i5 18 _ _ _ _ _ (⟨some 23,lf (dS ((c1V code (x1.1.1.1.length:Int) (pkA 3 x1.2.1) (pkS code x1.2.1 x1.2.2 3)).1)),[bx 1 93 [.dat (.sl 5 .u8) code,dI ((c1V code (x1.1.1.1.length:Int) (pkA 3 x1.2.1) (pkS code x1.2.1 x1.2.2 3)).2.1), .val (.int .u64 ((c1V code (x1.1.1.1.length:Int) (pkA 3 x1.2.1) (pkS code x1.2.1 x1.2.2 3)).2.2))],(1,none)]⟩ :: io 24 (lI x1.1.2) :: ⟨none,lf (.val undef),[bx 0 28 [.dat (.sl 203 (.pr .str .int)) x1.1.1.1, .dat (.sl 9 .str) x1.1.1.2.1, .dat (.sl 136 (.pr .int (.pr .int (.pr .bool .int)))) x1.1.1.2.2]]⟩ :: i2 3 _ _ [])) [0,1,3,3,3,1,63,64,64,0]
  iterate 5 refine z_ ?_
  refine zz (fun _ h_=>ac (dP 6 [(0,1)] (UV code (pkA 3 x1.2.1) (pkS code x1.2.1 x1.2.2 3) (x1.1.1.1.length:Int) (by omega) (by have h_:=‹_≤8∧_›; omega)) Qij) rfl) ?_
  iterate 4 refine z_ ?_
  exact zN
  refine Qb ?_
  subst hO
  refine QJ (x:=((x1.1.1.1,(x1.1.1.2.1,x1.1.1.2.2)),((c1V code (x1.1.1.1.length:Int) (pkA 3 x1.2.1) (pkS code x1.2.1 x1.2.2 3)).1,x1.1.2))) [] ?_ (X5 rfl (QD rfl rfl YL rfl) (Zf rfl) (Zf rfl)) rfl trivial rfl rfl
  (have h_:=‹_≤8∧(1≤_∧_)∧_›; exact h_.1)
theorem Kj (code:List UInt8)(at_:Int)(sd:Int)(ha:0≤at_∧at_≤800000000):FC Tryz.prog 82 [(false,[.ptr 0 0])] [bx 0 93 [.dat (.sl 5 .u8) code,dI at_, .val (.int .u64 sd)]] 1 (Ex (fun x:(Int×List ByteArray×List ByteArray)×Int×Int=>x.1.2.1.length≤301∧x.1.2.2.length≤301∧(at_≤x.2.1∧x.2.1≤at_+700)) (fun x:(Int×List ByteArray×List ByteArray)×Int×Int=>PV.tup [(false,[dI x.1.1]),(false,[.ref 1]),(false,[.ref 2])]) (fun x:(Int×List ByteArray×List ByteArray)×Int×Int=>[bx 0 93 [.dat (.sl 5 .u8) code,dI x.2.1, .val (.int .u64 x.2.2)],ar 1 9 .str x.1.2.1,ar 2 9 .str x.1.2.2])):=by
 refine Qj Tryz.func82 rfl rfl Tryz.ntmps82 fun O_ hO w0_ N0_ X_ h0_ f0_=> ?_
 iterate 7 refine w_ ?_
 have hp1:=Zj code at_ sd 4
 refine lc (dP 1 [] (Qp code at_ sd 4 (by omega)) Zd) ?_
 iterate 10 refine w_ ?_
 refine lc (dK (Xo (1+(pkV code at_ sd 4)) (by omega)).frozen JF) ?_
 refine alL 14 fun hl2=> ?_
 iterate 4 refine w_ ?_
 refine AC.wk (Wk.nilS 2 6 9 .str rfl (Fresh.of rfl) (nlr rfl))<|AC.wk (Wk.nilS 4 7 9 .str rfl (Fresh.of rfl) (nlr rfl)) ?_
 refine QE (fun m_ s_=>∃(k:Nat) (on_:List ByteArray) (of_:List ByteArray) (a_:Int) (sd_:Int),k≤(Qr (1+pkV code at_ sd 4).toNat).length∧m_=(Qr (1+pkV code at_ sd 4).toNat).length - k∧(on_.length≤k)∧(of_.length≤k)∧(at_≤a_∧a_≤at_+2+2*k)∧s_=⟨[(0,lP 0 0),(2,lI 0),(3,lf (.val (.slice none 0 0))),(4,lf (.val (.slice none 0 0))),(5,lI (1+(pkV code at_ sd 4))),(6,lR 3),(7,lR 5),(14,lf (.dat (.sl 9 .str) (Qr (1+(pkV code at_ sd 4)).toNat))),(15,lI ((Qr (1+(pkV code at_ sd 4)).toNat).length:Int)),(16,lI (k:Int))],[bx 0 93 [.dat (.sl 5 .u8) code,dI a_, .val (.int .u64 sd_)],ar 3 9 .str on_,ar 5 9 .str of_]⟩) ⟨0,([]:((.sl 9 .str):Ty).Den),([]:((.sl 9 .str):Ty).Den),(pkA 4 at_),(pkS code at_ sd 4),aS _,rfl,(aO _),(aO _),by omega,rfl⟩ ?_ ?_
 · exact Wk.of [(3,2),(5,4)] rfl ⟨rfl,rfl,rfl,rfl,rfl,rfl,rfl,rfl,rfl,rfl,trivial⟩ ⟨rfl,(Qk (by first | rfl | simp)),(Qk (by first | rfl | simp)),trivial⟩ rfl rfl
 rintro m_ s_ ⟨k,on_,of_,a_,sd_,hk3,hm4,hl1,hl2,hb,rfl⟩
 have hcf:=YW (n:=(1+pkV code at_ sd 4).toNat) (by omega)
 iterate 4 refine w_ ?_
 cases hb5:(decide ((k:Int) < ((Qr (1+(pkV code at_ sd 4)).toNat).length:Int)))
 ·have hb5':=ab hb5
  refine w_ ?_
  refine Qi ?_
  refine (?_:AC _ _ _ _ _)
  iterate 6 refine w_ ?_
  cases hb6:(decide (0 < (on_.length:Int)))
  ·have hb6':=ab hb6
   iterate 14 refine w_ ?_
   refine Qb ?_
   subst hO
   refine QJ (x:=((1+(pkV code at_ sd 4),(on_,of_)),(a_,sd_))) [(0,0),(1,3),(2,5)] ?_ (X5 rfl (Zf rfl) (Zf rfl) (Zf rfl)) rfl ⟨rfl,rfl,rfl,trivial⟩ rfl rfl
   (dsimp only; first | omega | (simp only[ak,aq,aD]; omega))
  ·have hb6':=ae hb6
   refine w_ ?_
   have hp7:=Zj code a_ sd_ 15
   refine lgy rfl rfl (dP 6 [] (Z4 code a_ sd_ 15 (by omega)) WQ) ?_
   iterate 2 refine w_ ?_
   refine cd_ (fun hb8 hb8'=> ?_) fun hb8 hb8'=> ?_
   ·iterate 9 refine w_ ?_
    refine Qb ?_
    subst hO
    refine QJ (x:=((1+(pkV code at_ sd 4),(on_,of_)),((pkA 15 a_),(pkS code a_ sd_ 15)))) [(0,0),(1,3),(2,5)] ?_ (X5 rfl (Zf rfl) (Zf rfl) (Zf rfl)) rfl ⟨rfl,rfl,rfl,trivial⟩ rfl rfl
    (dsimp only; first | omega | (simp only[ak,aq,aD]; omega))
   ·iterate 4 refine w_ ?_
    obtain ⟨x9,hx10⟩:∃z,on_[0]? =some z:=⟨_,aa (by omega)⟩
    refine w_ ?_
    refine lc (dBs 7 (e:= .str) ZZ) ?_
    refine lc (dA 8 YS) ?_
    iterate 10 refine w_ ?_
    refine Qb ?_
    subst hO
    refine QJ (x:=((1+(pkV code at_ sd 4),(on_,of_++([x9]))),((pkA 15 a_),(pkS code a_ sd_ 15)))) [(0,0),(1,3),(2,8)] ?_ (X5 rfl (Zf rfl) (Zf rfl) (Zf rfl)) rfl ⟨rfl,rfl,rfl,trivial⟩ rfl rfl
    (dsimp only; first | omega | (simp only[ak,aq,aD]; omega))
 ·have hb5':=ae hb5
  iterate 5 refine w_ ?_
  obtain ⟨x11,hx12⟩:∃z,(Qr (1+(pkV code at_ sd 4)).toNat)[k]? =some z:=⟨_,aa (by omega)⟩
  iterate 6 refine w_ ?_
  have hp13:=Zj code a_ sd_ 3
  refine lc (dP 9 [] (Qp code a_ sd_ 3 (by omega)) Zd) ?_
  iterate 6 refine w_ ?_
  cases hb14:(decide ((pkV code a_ sd_ 3)=0))
  ·have hb14':=ab hb14
   iterate 5 refine w_ ?_
   cases hb15:(decide ((pkV code a_ sd_ 3)=1))
   ·have hb15':=ab hb15
    refine w_ ?_
    refine AC.skip ?_
    refine (?_:AC _ _ _ _ _)
    iterate 3 refine w_ ?_
    refine Qd<|Q5 ⟨k+1,on_,of_,(pkA 3 a_),(pkS code a_ sd_ 3),by omega,rfl,(by first | omega | (simp only[ak,aq,aD]; omega)),(by first | omega | (simp only[ak,aq,aD]; omega)),(by omega),rfl⟩ (by omega) ?_
    exact Wk.of [] rfl ⟨rfl,rfl,rfl,rfl,rfl,rfl,rfl,rfl,rfl,rfl,trivial⟩ ⟨rfl,rfl,rfl,trivial⟩ rfl rfl
   ·have hb15':=ae hb15
    iterate 4 refine w_ ?_
    refine lc (dBs 10 (e:= .str) ZZ) ?_
    refine lc (dA 11 YS) ?_
    refine w_ ?_
    refine Qd ?_
    refine (?_:AC _ _ _ _ _)
    iterate 3 refine w_ ?_
    refine Qd<|Q5 ⟨k+1,on_,(of_++([x11])),(pkA 3 a_),(pkS code a_ sd_ 3),by omega,rfl,(by first | omega | (simp only[ak,aq,aD]; omega)),(by first | omega | (simp only[ak,aq,aD]; omega)),(by omega),rfl⟩ (by omega) ?_
    exact Wk.of [(5,11)] rfl ⟨rfl,rfl,rfl,rfl,rfl,rfl,rfl,rfl,rfl,rfl,trivial⟩ ⟨rfl,rfl,(Qk (by first | rfl | simp)),trivial⟩ rfl rfl
  ·have hb14':=ae hb14
   iterate 4 refine w_ ?_
   refine lc (dBs 12 (e:= .str) ZZ) ?_
   refine lc (dA 13 YS) ?_
   refine w_ ?_
   refine Qd ?_
   refine (?_:AC _ _ _ _ _)
   iterate 3 refine w_ ?_
   refine Qd<|Q5 ⟨k+1,(on_++([x11])),of_,(pkA 3 a_),(pkS code a_ sd_ 3),by omega,rfl,(by first | omega | (simp only[ak,aq,aD]; omega)),(by first | omega | (simp only[ak,aq,aD]; omega)),(by omega),rfl⟩ (by omega) ?_
   exact Wk.of [(3,13)] rfl ⟨rfl,rfl,rfl,rfl,rfl,rfl,rfl,rfl,rfl,rfl,trivial⟩ ⟨rfl,(Qk (by first | rfl | simp)),rfl,trivial⟩ rfl rfl
theorem Zs (code:List UInt8):FC Tryz.prog 23 [(false,[.dat (.sl 5 .u8) code])] [] 0 (Ex (fun x:DOn×DOn=>x.1.1.length≤301) (fun x:DOn×DOn=>PV.tup [(true,[.dat (.sl 9 .str) x.1.1, .dat (.sl 9 .str) x.1.2]),(true,[.dat (.sl 9 .str) x.2.1, .dat (.sl 9 .str) x.2.2])]) (fun x:DOn×DOn=>[])):=by
 refine Qj Tryz.func23 rfl rfl Tryz.ntmps23 fun O_ hO w0_ N0_ X_ h0_ f0_=> ?_
 refine w_ ?_
 refine lc (xal 0 (.pr (.sl 9 .str) (.sl 9 .str)) Z2)<|lc (xal 1 (.pr (.sl 9 .str) (.sl 9 .str)) Z2) ?_
 iterate 3 refine w_ ?_
 refine lc (WD [.val (.slice none 0 0),dI 0, .val (.int .u64 0)] (HK (offs:=[(0,1),(1,1),(2,1)]) (zs:=[.slice none 0 0, .int .i64 0, .int .u64 0]) Tryz.underlying93 (by kernel_rfl) (by kernel_rfl)) (fun _ _ _=>⟨_,_,rfl,rfl,⟨_,_,rfl,(Y2 _ _ _ .int).one rfl,⟨_,_,rfl,rfl,rfl⟩⟩⟩) ⟨_,_,rfl,(Qm rfl),rfl⟩ (aw.1 rfl) rfl rfl) ?_
 refine xbx 2 ?_
 iterate 4 refine w_ ?_
 refine Q4 3 [(0,2)] (Kj code 0 0 (by omega)) Qjs e1_ ⟨rfl,trivial⟩ rfl (fun _=>rfl) (fun _=>⟨trivial,(Fresh.of rfl),(Fresh.of rfl),trivial⟩) (nlr rfl) fun x1 hx2=> ?_
 iterate 8 refine w_ ?_
 refine Zl<|AC.wk (Wk.freeze (i:=6) (q:=4) rfl rfl)<|AC.wk (Wk.freeze (i:=7) (q:=5) rfl rfl) ?_
 iterate 3 refine w_ ?_
 refine lc (Qn V0 ⟨_,_,rfl,(Qm rfl),⟨_,_,rfl,(Qm rfl),rfl⟩⟩ (aw.1 rfl) rfl rfl)<|lc (xal 6 (.pr (.sl 9 .str) (.sl 9 .str)) Z2) ?_
 iterate 5 refine w_ ?_
 have hp3:=Zj code x1.2.1 x1.2.2 2
 refine lc (dP 7 [(0,2)] (Z4 code x1.2.1 x1.2.2 2 (by omega)) WQ) ?_
 refine w_ ?_
 refine cd_ (fun hb4 hb4'=> ?_) fun hb4 hb4'=> ?_
 ·iterate 5 refine w_ ?_
  refine lc (Qn V0 ⟨_,_,rfl,(Qm rfl),⟨_,_,rfl,(Qm rfl),rfl⟩⟩ (aw.1 rfl) rfl rfl) ?_
  iterate 3 refine w_ ?_
  refine Qb ?_
  subst hO
  refine QJ (x:=((x1.1.2.1,x1.1.2.2),(x1.1.2.2,x1.1.2.1))) [] ?_ (Yn rfl (QD rfl rfl Qdm rfl) (QD rfl rfl Qdm rfl)) rfl trivial rfl rfl
  (dsimp only; omega)
 ·apply dW (i2 23 _ _ [io 25 (lf (.dat (.sl 9 .str) x1.1.2.1)),io 26 _,io 27 (lf (.dat (.sl 9 .str) x1.1.2.2)),io 28 (ag [.dat (.sl 9 .str) x1.1.2.1, .dat (.sl 9 .str) x1.1.2.2]),⟨none,lf (.val undef),[bx 0 47 [.dat (.sl 9 .str) x1.1.2.1, .dat (.sl 9 .str) x1.1.2.2]]⟩,⟨none,lf (.val undef),[bx 1 47 [.dat (.sl 9 .str) x1.1.2.1, .dat (.sl 9 .str) x1.1.2.2]]⟩]) [0,1,1,7,1,1,32,0]
  iterate 2 refine z_ ?_
  refine zz (fun _ h_=>ac (dK (Xb x1.1.2.1 (by omega)).frozen Ut) rfl) ?_
  refine z_ ?_
  refine zz (fun _ h_=>ac (dK (Xb x1.1.2.2 (by omega)).frozen Ut) rfl) ?_
  refine zz (fun _ h_=>ac (Qn V0 ⟨_,_,rfl,(h_.w rfl),⟨_,_,rfl,(h_.w rfl),rfl⟩⟩ (aw.1 rfl) rfl rfl) rfl) ?_
  iterate 2 refine z_ ?_
  exact zN
  refine Qb ?_
  subst hO
  refine QJ (x:=((x1.1.2.1,x1.1.2.2),(x1.1.2.1,x1.1.2.2))) [] ?_ (Yn rfl (QD rfl rfl Qdm rfl) (QD rfl rfl Qdm rfl)) rfl trivial rfl rfl
  (dsimp only; omega)
end Go.Proofs.YtfkmmpfdncopdaaGreat
