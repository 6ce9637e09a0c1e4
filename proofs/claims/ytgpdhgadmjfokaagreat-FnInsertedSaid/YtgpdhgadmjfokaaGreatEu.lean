/- Walks over abstract states: drawn signs. -/
import Derived.Test.YtgpdhgadmjfokaaGreatDm
import Derived.Test.YtgpdhgadmjfokaaGreatEo
import Derived.Test.YtgpdhgadmjfokaaGreatEd
import Derived.Test.YtgpdhgadmjfokaaGreatUg
import Derived.Test.YtgpdhgadmjfokaaGreatCa
set_option linter.unusedSimpArgs false
set_option linter.unusedVariables false
set_option linter.unusedSectionVars false
namespace Go.Proofs.YtgpdhgadmjfokaaGreat
open Go.RowKit
set_option maxRecDepth 100000
set_option maxHeartbeats 4000000
def Jy (c:DSg)(sig:Int):Nat→ByteArray
 | 0=>ByteArray.empty
 | k+1=>Jy c sig k++(⟨#[48,43,49,45]⟩:ByteArray).extract ((if bAt (cdA c k) sig=49 then (2:Int) else 0)+(if VN c (k:Int) sig=true then 1 else 0)).toNat ((if bAt (cdA c k) sig=49 then (2:Int) else 0)+(if VN c (k:Int) sig=true then 1 else 0)+1).toNat
def isS (c:DSg)(a b:Int×Bool):Bool:= !decide (a=b)&&okB c a b
def rwS (c:DSg)(a:Int×Bool)(l:List (Int×Bool)):List ByteArray:=(l.filter fun b=>isS c a b).map fun b=>J0 c (Qk c a b)
def Qb9 (c:DSg)(L l:List (Int×Bool)):List ByteArray:=l.flatMap fun a=>rwS c a L
abbrev Ve (c:DSg):List ByteArray:=Qb9 c (ZQ c.1.length) (ZQ c.1.length)
abbrev Qdd:List ByteArray:=[⟨#[48]⟩,⟨#[43]⟩,⟨#[49]⟩,⟨#[45]⟩,⟨#[48]⟩]
abbrev QbY:List ByteArray:=[⟨#[48]⟩,⟨#[43]⟩,⟨#[49]⟩,⟨#[45]⟩]
def tlG (code:List UInt8):Nat→ByteArray×Int×Int→ByteArray×Int×Int
 | 0,st=>st
 | k+1,st=>((tlG code k st).1++(Qdd[(pkV code (tlG code k st).2.1 (tlG code k st).2.2 (Qdd.length:Int)).toNat]?).getD ByteArray.empty,pkA (Qdd.length:Int) (tlG code k st).2.1,pkS code (tlG code k st).2.1 (tlG code k st).2.2 (Qdd.length:Int))
def rpT (z:ByteArray):Nat→ByteArray
 | 0=>ByteArray.empty
 | k+1=>rpT z k++z
section
variable {c:DSg}{code:List UInt8}{sig a_ d_ b_ e_:Int}{k i n:Nat}{z w_:ByteArray}{x:UInt8}{L:List (Int×Bool)}{a b:Int×Bool}
theorem Qsc (g:c.2.1[k]? =some z)(f:z[sig.toNat]? =some x)(d:¬x=49)(e:VN c (k:Int) sig=false):(0:Int)=(if bAt (cdA c k) sig=49 then (2:Int) else 0)+(if VN c (k:Int) sig=true then 1 else 0):=by
 rw[e,show bAt (cdA c k) sig=x by unfold cdA; rw[g]; exact Qq f,if_neg d]; rfl
theorem Qr5 (g:c.2.1[k]? =some z)(f:z[sig.toNat]? =some x)(d:¬x=49)(e:VN c (k:Int) sig=true):(0+1:Int)=(if bAt (cdA c k) sig=49 then (2:Int) else 0)+(if VN c (k:Int) sig=true then 1 else 0):=by
 rw[e,show bAt (cdA c k) sig=x by unfold cdA; rw[g]; exact Qq f,if_neg d]; rfl
theorem Qsq (g:c.2.1[k]? =some z)(f:z[sig.toNat]? =some x)(d:x=49)(e:VN c (k:Int) sig=false):(2:Int)=(if bAt (cdA c k) sig=49 then (2:Int) else 0)+(if VN c (k:Int) sig=true then 1 else 0):=by
 rw[e,show bAt (cdA c k) sig=x by unfold cdA; rw[g]; exact Qq f,if_pos d]; rfl
theorem Qso (g:c.2.1[k]? =some z)(f:z[sig.toNat]? =some x)(d:x=49)(e:VN c (k:Int) sig=true):(2+1:Int)=(if bAt (cdA c k) sig=49 then (2:Int) else 0)+(if VN c (k:Int) sig=true then 1 else 0):=by
 rw[e,show bAt (cdA c k) sig=x by unfold cdA; rw[g]; exact Qq f,if_pos d]; rfl
theorem QrX {m:Int}(h:m=(if bAt (cdA c k) sig=49 then (2:Int) else 0)+(if VN c (k:Int) sig=true then 1 else 0)):Jy c sig k++(⟨#[48,43,49,45]⟩:ByteArray).extract m.toNat (m+1).toNat=Jy c sig (k+1):=by rw[Jy,← h]
theorem Qee:(Jy c sig k).size≤4*k:=by
 induction k with
 | zero=>exact aP _
 | succ k d=>
  rw[Jy,aQ,aS]
  have:(⟨#[48,43,49,45]⟩:ByteArray).size=4:=rfl
  omega
def QfF (c:DSg)(sig:Int)[Decidable (SgOk c)]:ByteArray:=if SgOk c∧(0≤sig∧sig≤(c.1.length:Int) - 1) then Jy c sig c.2.1.length else ByteArray.empty
theorem QjA (d:L[i]? =some b)(h:Ty.beq Qv a b=true):rwS c a (L.take i)=rwS c a (L.take (i+1)):=by
 rw[QuA,aV] at h
 unfold rwS
 rw[QI d,bG,bB]; simp[isS,h]
theorem Qig (d:L[i]? =some b)(h:okB c a b=false):rwS c a (L.take i)=rwS c a (L.take (i+1)):=by
 unfold rwS
 rw[QI d,bG,bB]; simp[isS,h]
theorem Qin (e:L[i]? =some b)(d:Ty.beq Qv a b=false)(h:okB c a b=true):rwS c a (L.take i)++[J0 c (Qk c a b)]=rwS c a (L.take (i+1)):=by
 rw[QuA,bT] at d
 unfold rwS
 rw[QI e,bG,bB]; simp[isS,h,d]
theorem Qov (d:L[k]? =some a):Qb9 c L (L.take k)++rwS c a L=Qb9 c L (L.take (k+1)):=by
 unfold Qb9
 rw[QI d,List.flatMap_append]; simp
theorem QkR:(rwS c a L).length≤L.length:=by unfold rwS; rw[aE]; exact cO ..
theorem Qqm {l:List (Int×Bool)}:(Qb9 c L l).length≤l.length*L.length:=by
 unfold Qb9
 induction l with
 | nil=>simp
 | cons a l d=>
  rw[List.flatMap_cons,ah,ap,bH]
  have:=QkR (c:=c) (a:=a) (L:=L)
  omega
theorem Qqo (h:c.1.length≤8)(l:List (Int×Bool))(e:l.length≤16):(Qb9 c (ZQ c.1.length) l).length≤256:=by
 have d:=Qqm (c:=c) (L:=ZQ c.1.length) (l:=l)
 rw[HZ] at d
 have:l.length*(2*c.1.length)≤16*16:=dF e (by omega)
 omega
theorem Qoa (d:SgOk c)(h:z∈Qb9 c L L):z.size=c.2.1.length:=by
 unfold Qb9 at h
 obtain ⟨a,_,h⟩:=List.mem_flatMap.1 h
 unfold rwS at h
 obtain ⟨b,_,rfl⟩:=aR.1 h
 exact (QfE (block:=Qk c a b) d).2.1
theorem Qgo:(rpT z k).size=z.size*k:=by
 induction k with
 | zero=>rfl
 | succ k d=>rw[rpT,aQ,d,Nat.mul_succ]
theorem Qpd (h:z.size≤1):(rpT z k).size≤k:=by
 rw[Qgo]
 exact bg (dF h (aM k)) (by omega)
theorem WT (l:List ByteArray)(h:(l.all fun x=>decide (x.size≤1))=true)(i:Nat):((l[i]?).getD ByteArray.empty).size≤1:=by
 cases d:l[i]? with
 | none=>exact aP _
 | some x=>exact ab (aq.1 h x (ai d))
theorem Qod (l:List ByteArray)(h:(l.all fun x=>decide (x.size≤7))=true)(i:Nat):((l[i]?).getD ByteArray.empty).size≤7:=by
 cases d:l[i]? with
 | none=>exact aP _
 | some x=>exact ab (aq.1 h x (ai d))
theorem Qkd (code:List UInt8)(k:Nat)(st:ByteArray×Int×Int):(tlG code k st).1.size≤st.1.size+k∧st.2.1≤(tlG code k st).2.1∧(tlG code k st).2.1≤st.2.1+2*k:=by
 induction k with
 | zero=>exact ⟨aM _,du _,by show st.2.1≤_; omega⟩
 | succ k f=>
  have d:=Zy code (tlG code k st).2.1 (tlG code k st).2.2 (Qdd.length:Int)
  have e:=WT Qdd (by decide+kernel) (pkV code (tlG code k st).2.1 (tlG code k st).2.2 (Qdd.length:Int)).toNat
  rw[tlG]
  refine ⟨by rw[aQ]; omega,by dsimp only; omega,by dsimp only; omega⟩
def sgD (code:List UInt8)(c:DSg)(a d:Int)[Decidable (SgOk c)]:ByteArray×Int×Int:=
 if SgOk c then
  if pkV code a d 3=0 then (QfF c (pkV code (pkA 3 a) (pkS code a d 3) (c.1.length:Int)),pkA (c.1.length:Int) (pkA 3 a),pkS code (pkA 3 a) (pkS code a d 3) (c.1.length:Int))
  else if pkV code (pkA 3 a) (pkS code a d 3) 2=0 then (rpT ((QbY[(pkV code (pkA 2 (pkA 3 a)) (pkS code (pkA 3 a) (pkS code a d 3) 2) (QbY.length:Int)).toNat]?).getD ByteArray.empty) c.2.1.length,pkA (QbY.length:Int) (pkA 2 (pkA 3 a)),pkS code (pkA 2 (pkA 3 a)) (pkS code (pkA 3 a) (pkS code a d 3) 2) (QbY.length:Int))
  else if 0 < (Ve c).length then (((Ve c)[(pkV code (pkA 2 (pkA 3 a)) (pkS code (pkA 3 a) (pkS code a d 3) 2) ((Ve c).length:Int)).toNat]?).getD ByteArray.empty,pkA ((Ve c).length:Int) (pkA 2 (pkA 3 a)),pkS code (pkA 2 (pkA 3 a)) (pkS code (pkA 3 a) (pkS code a d 3) 2) ((Ve c).length:Int))
  else tlG code c.2.1.length (ByteArray.empty,pkA 2 (pkA 3 a),pkS code (pkA 3 a) (pkS code a d 3) 2)
 else tlG code c.2.1.length (ByteArray.empty,a,d)
variable {a0 d0:Int}[Decidable (SgOk c)]
theorem QlZ (sig:Int):(QfF c sig).size≤4*c.2.1.length:=by
 unfold QfF
 split
 ·exact Qee
 ·exact aP _
theorem Qj0 (code:List UInt8)(c:DSg)[Decidable (SgOk c)](a d:Int):(sgD code c a d).1.size≤4*c.2.1.length∧a≤(sgD code c a d).2.1∧(sgD code c a d).2.1≤a+6+2*c.2.1.length:=by
 have l:=Zy code a d 3
 have m:=Zy code (pkA 3 a) (pkS code a d 3) 2
 unfold sgD
 split
 ·rename_i g
  split
  ·have e:=Zy code (pkA 3 a) (pkS code a d 3) (c.1.length:Int)
   exact ⟨QlZ _,by dsimp only; omega,by dsimp only; omega⟩
  ·split
   ·have e:=Zy code (pkA 2 (pkA 3 a)) (pkS code (pkA 3 a) (pkS code a d 3) 2) (QbY.length:Int)
    have h:=WT QbY (by decide+kernel) (pkV code (pkA 2 (pkA 3 a)) (pkS code (pkA 3 a) (pkS code a d 3) 2) (QbY.length:Int)).toNat
    refine ⟨?_,by dsimp only; omega,by dsimp only; omega⟩
    dsimp only
    rw[Qgo]
    exact dF (bg h (by decide)) (aM _)
   ·split
    ·have e:=Zy code (pkA 2 (pkA 3 a)) (pkS code (pkA 3 a) (pkS code a d 3) 2) ((Ve c).length:Int)
     refine ⟨?_,by dsimp only; omega,by dsimp only; omega⟩
     dsimp only
     cases f:(Ve c)[(pkV code (pkA 2 (pkA 3 a)) (pkS code (pkA 3 a) (pkS code a d 3) 2) ((Ve c).length:Int)).toNat]? with
     | none=>exact aP _
     | some z=>have:=Qoa g (ai f); show z.size≤_; omega
    ·have e:=Qkd code c.2.1.length (ByteArray.empty,pkA 2 (pkA 3 a),pkS code (pkA 3 a) (pkS code a d 3) 2)
     dsimp only at e; have j:(ByteArray.empty).size=0:=rfl
     exact ⟨by omega,by omega,by omega⟩
 ·have e:=Qkd code c.2.1.length (ByteArray.empty,a,d)
  dsimp only at e; have j:(ByteArray.empty).size=0:=rfl
  exact ⟨by omega,by omega,by omega⟩
theorem Qth (d:SgOk c)(h:pkV code a0 d0 3=0):sgD code c a0 d0=(QfF c (pkV code (pkA 3 a0) (pkS code a0 d0 3) (c.1.length:Int)),pkA (c.1.length:Int) (pkA 3 a0),pkS code (pkA 3 a0) (pkS code a0 d0 3) (c.1.length:Int)):=by
 unfold sgD; rw[if_pos d,if_pos h]
theorem Qsp (g:SgOk c)(d:¬pkV code a0 d0 3=0)(f:pkV code (pkA 3 a0) (pkS code a0 d0 3) 2=0)(e:c.2.1.length=k):sgD code c a0 d0=(rpT ((QbY[(pkV code (pkA 2 (pkA 3 a0)) (pkS code (pkA 3 a0) (pkS code a0 d0 3) 2) (QbY.length:Int)).toNat]?).getD ByteArray.empty) k,pkA (QbY.length:Int) (pkA 2 (pkA 3 a0)),pkS code (pkA 2 (pkA 3 a0)) (pkS code (pkA 3 a0) (pkS code a0 d0 3) 2) (QbY.length:Int)):=by
 subst e; unfold sgD; rw[if_pos g,if_neg d,if_pos f]
theorem QsB (f:SgOk c)(d:¬pkV code a0 d0 3=0)(e:¬pkV code (pkA 3 a0) (pkS code a0 d0 3) 2=0)(h:(0:Int) < ((Ve c).length:Int))(g:(Ve c)[(pkV code (pkA 2 (pkA 3 a0)) (pkS code (pkA 3 a0) (pkS code a0 d0 3) 2) ((Ve c).length:Int)).toNat]? =some z):
 sgD code c a0 d0=(z,pkA ((Ve c).length:Int) (pkA 2 (pkA 3 a0)),pkS code (pkA 2 (pkA 3 a0)) (pkS code (pkA 3 a0) (pkS code a0 d0 3) 2) ((Ve c).length:Int)):=by
 unfold sgD; rw[if_pos f,if_neg d,if_neg e,if_pos (by omega),g]; rfl
theorem QtZ (d:¬SgOk c):sgD code c a0 d0=tlG code c.2.1.length (ByteArray.empty,a0,d0):=if_neg d
theorem Quu (f:SgOk c)(d:¬pkV code a0 d0 3=0)(e:¬pkV code (pkA 3 a0) (pkS code a0 d0 3) 2=0)(g:¬(0:Int) < ((Ve c).length:Int)):sgD code c a0 d0=tlG code c.2.1.length (ByteArray.empty,pkA 2 (pkA 3 a0),pkS code (pkA 3 a0) (pkS code a0 d0 3) 2):=by
 unfold sgD; rw[if_pos f,if_neg d,if_neg e,if_neg (by omega)]
theorem Qsa {T:ByteArray×Int×Int}(f:sgD code c a0 d0=tlG code c.2.1.length T)(d:(w_,b_,e_)=tlG code k T)(e:c.2.1.length=k):sgD code c a0 d0=(w_,b_,e_):=by subst e; rw[f,d]
theorem QvH {T:ByteArray×Int×Int}(d:(w_,b_,e_)=tlG code k T):(w_++(Qdd[(pkV code b_ e_ (Qdd.length:Int)).toNat]?).getD ByteArray.empty,pkA (Qdd.length:Int) b_,pkS code b_ e_ (Qdd.length:Int))=tlG code (k+1) T:=by rw[tlG,← d]
end
theorem HV (c:Z9)(v:SgOk c):FC Tryz.prog 306 [(true,[.dat Qj c.1, .dat Qm c.2.1, .dat Qw c.2.2])] [] 0 (XD 9 .str (Ve c)):=by
 have o:=v.sigs.2.2
 have D:=HZ (k:=c.1.length)
 have m:=Qqo (c:=c) o
 refine Qu Tryz.func306 rfl rfl Tryz.ntmps306 fun H B G w I A y=> ?_
 refine w_ ?_
 refine xbx 0 ?_
 refine w8 ?_
 refine lc (dK (Vv c (by omega)).frozen QcO) ?_
 refine alL 11 fun _=> ?_
 refine w4 ?_
 refine AC.wk (Wk.nilS 1 3 9 .str rfl (Fresh.of rfl) (nlr rfl)) ?_
 refine lp0 ((ZQ c.1.length).length) (fun k=>⟨[(1,lP 0 0),(2,lf (.val (.slice none 0 0))),(3,lR 2),(11,lf (.dat YI (ZQ c.1.length))),(12,lI ((ZQ c.1.length).length:Int)),(13,lI (k:Int))],[bx 0 27 [.dat Qj c.1, .dat Qm c.2.1, .dat Qw c.2.2],ar 2 9 .str (Qb9 c (ZQ c.1.length) ((ZQ c.1.length).take k))]⟩) ?_ fun k _=> ?_
 exact wp [(2,1)] ⟨rfl,(Qh (rfl)),trivial⟩
 have r:((ZQ c.1.length).take k).length≤16:=by simp only[au]; omega
 have C:=m _ r
 refine w4 ?_
 cases f:(decide ((k:Int) < ((ZQ c.1.length).length:Int)))
 have g:=aa f
 refine w7 ?_
 refine Qe<|fo_ B ?_
 ·(rw[Q5 (by omega)]; done)
 have g:=ab f
 refine w5 ?_
 obtain ⟨a,s⟩:=gx (ZQ c.1.length) k
 refine w2 ?_
 refine lc (xal 3 Qv XN) ?_
 refine w4 ?_
 refine lc (dK (Vv c (by omega)).frozen QcO) ?_
 refine alL 18 fun _=> ?_
 refine w4 ?_
 refine lp0 ((ZQ c.1.length).length) (fun i=>⟨[(1,lP 0 0),(2,lf (.val (.slice none 0 0))),(3,lR 4),(5,lP 3 0),(11,lf (.dat YI (ZQ c.1.length))),(12,lI ((ZQ c.1.length).length:Int)),(13,lI (k:Int)),(14,lB true),(15,lf (.elt Qv a 0)),(16,ag [dI a.1,dB a.2]),(17,ag [.dat Qj c.1, .dat Qm c.2.1, .dat Qw c.2.2]),(18,lf (.dat YI (ZQ c.1.length))),(19,lI ((ZQ c.1.length).length:Int)),(20,lI (i:Int))],[bx 0 27 [.dat Qj c.1, .dat Qm c.2.1, .dat Qw c.2.2],bx 3 86 [dI a.1,dB a.2],ar 4 9 .str (Qb9 c (ZQ c.1.length) ((ZQ c.1.length).take k)++rwS c a ((ZQ c.1.length).take i))]⟩) ?_ fun i _=> ?_
 exact wp [(4,2)] ⟨rfl,rfl,(Qh ((bp _).symm)),trivial⟩
 have E:=QkR (c:=c) (a:=a) (L:=(ZQ c.1.length).take i)
 have F:((ZQ c.1.length).take i).length≤16:=by simp only[au]; omega
 refine w4 ?_
 cases h:(decide ((i:Int) < ((ZQ c.1.length).length:Int)))
 have j:=aa h
 refine w6 ?_
 refine Qc ?_
 refine l0_ ?_
 exact wp [(2,4)] ⟨rfl,(Qh ((by rw[Q5 (l:=ZQ c.1.length) (k:=i) (by omega),Qov s]))),trivial⟩
 have j:=ab h
 refine w5 ?_
 obtain ⟨b,d⟩:=gx (ZQ c.1.length) i
 refine w2 ?_
 refine lc (xal 5 Qv XN) ?_
 refine w6 ?_
 refine lc (dK (K4 c a b v) Qjj) ?_
 refine w9 ?_
 refine lc (Qak Qpf Qo0 (Qr rfl) (Qr rfl) (p:=a) (q:=b) rfl rfl rfl) ?_
 refine w_ ?_
 cases t:(Ty.beq Qv a b)
 refine w3 ?_
 cases u:(okB c a b)
 refine w6 ?_
 refine Qc ?_
 refine l0_ ?_
 exact wp [] ⟨rfl,rfl,(Qh (by first | rw[aO,Qin d ‹_› ‹_›] | rw[QjA d ‹_›] | rw[Qig d ‹_›])),trivial⟩
 refine w4 ?_
 refine lc (dBs 6 (e:= .str) WE) ?_
 refine lc (dA 7 Ji) ?_
 refine w_ ?_
 refine Qc ?_
 refine w4 ?_
 refine Qc ?_
 refine l0_ ?_
 exact wp [(4,7)] ⟨rfl,rfl,(Qh (by first | rw[aO,Qin d ‹_› ‹_›] | rw[QjA d ‹_›] | rw[Qig d ‹_›])),trivial⟩
 refine w9 ?_
 refine Qc ?_
 refine l0_ ?_
 exact wp [] ⟨rfl,rfl,(Qh (by first | rw[aO,Qin d ‹_› ‹_›] | rw[QjA d ‹_›] | rw[Qig d ‹_›])),trivial⟩
theorem VK (c:Z9)(sig:Int)[∀c,Decidable (SgOk c)]:FC Tryz.prog 305 [(true,[.dat Qj c.1, .dat Qm c.2.1, .dat Qw c.2.2]),(false,[dI sig])] [] 0 (Q7 (PV.tup [(false,[dS (QfF c sig)]),(false,[dB (decide (SgOk c∧(0≤sig∧sig≤(c.1.length:Int) - 1)))])])):=by
 have N:(⟨#[48,43,49,45]⟩:ByteArray).size=4:=rfl
 refine Qu Tryz.func305 rfl rfl Tryz.ntmps305 fun Q A P E R J I=> ?_
 refine acI 1 fun _=> ?_
 refine w_ ?_
 refine xbx 0 ?_
 refine w7 ?_
 refine lc (dK (QaB c sig) Qhz) ?_
 refine w2 ?_
 cases r:(decide (SgOk c∧(0≤sig∧sig≤(c.1.length:Int) - 1)))
 have s:=aa r
 refine w6 ?_
 have F:((⟨#[]⟩:ByteArray):ByteArray)=(QfF c sig):=by
  exact (if_neg ‹_›).symm
 have G:(false:Bool)=(decide (SgOk c∧(0≤sig∧sig≤(c.1.length:Int) - 1))):=by
  exact (if_neg ‹_›).symm
 exact fr_ A (e:=by rw[F,← G] <;> rfl)
 have s:=ab r
 refine w2 ?_
 refine Z6 ?_
 have g:SgOk c∧(0≤sig∧sig≤(c.1.length:Int) - 1):=by assumption
 refine w7 ?_
 refine alL 15 fun _=> ?_
 refine w4 ?_
 refine lp0 c.2.1.length (fun k=>⟨[(1,lI sig),(2,lP 0 0),(4,lf (dS (⟨#[]⟩:ByteArray))),(5,lB false),(6,lf (dS (Jy c sig k))),(15,lf (.dat Qm c.2.1)),(16,lI (c.2.1.length:Int)),(17,lI (k:Int))],[bx 0 27 [.dat Qj c.1, .dat Qm c.2.1, .dat Qw c.2.2]]⟩) ?_ fun k _=> ?_
 exact Wk.of [] rfl ⟨rfl,rfl,rfl,rfl,(show some (lf (dS (⟨#[]⟩:ByteArray)))=some (lf (dS (Jy c sig 0))) from congrArg (fun z_=>some (lf (dS z_))) (rfl)),rfl,rfl,rfl,trivial⟩ ⟨rfl,trivial⟩ rfl rfl
 refine w4 ?_
 cases t:(decide ((k:Int) < (c.2.1.length:Int)))
 have u:=aa t
 refine w9 ?_
 have H:(Jy c sig k:ByteArray)=(QfF c sig):=by
  (exact (by rw[show k=c.2.1.length by omega]:Jy c sig k=Jy c sig c.2.1.length).trans (if_pos g).symm)
 have y:(true:Bool)=(decide (SgOk c∧(0≤sig∧sig≤(c.1.length:Int) - 1))):=by
  exact (aT g).symm
 exact fr_ A (e:=by rw[H,← y] <;> rfl)
 have u:=ab t
 refine w6 ?_
 obtain ⟨w,p⟩:=gx c.2.1 k
 have j:=p
 have O:=(g.1.codes _ (ai p)).2
 refine w5 ?_
 refine Qcm (fun D=>∃(d:Int),(d=(if bAt (cdA c k) sig=49 then (2:Int) else 0)+(if VN c (k:Int) sig=true then 1 else 0))∧(0≤d∧d≤3)∧D=⟨[(1,lI sig),(2,lP 0 0),(4,lf (dS (⟨#[]⟩:ByteArray))),(5,lB false),(6,lf (dS (Jy c sig k))),(7,lI (k:Int)),(8,lf (dS w)),(9,lI d),(15,lf (.dat Qm c.2.1)),(16,lI (c.2.1.length:Int)),(17,lI (k:Int)),(18,lB true),(19,lI (k:Int)),(20,lf (.elt .str w 0)),(21,lf (dS w))],[bx 0 27 [.dat Qj c.1, .dat Qm c.2.1, .dat Qw c.2.2]]⟩) ?_ fun f=> ?_
 rintro D ⟨d,K,M,rfl⟩
 refine w5 ?_
 refine lc (show Does _ _ _ _ (St.put _ 36 (lf (dS ((⟨#[48,43,49,45]⟩:ByteArray).extract (d).toNat (d+1).toNat)))) from Q0 (l:=(some d)) (h:=(some (d+1))) (Evl.str rfl) (by exact (Qa rfl)) (by exact (Qa rfl)) Q9 rfl (by first | omega | (simp only[ao,ak]; omega)) (by first | omega | (simp only[ao,ak]; omega)) (by first | omega | (simp only[ao,ak]; omega)))<|lc (Q8 (Qa rfl) (Qa rfl) rfl (by (have:=Qee (c:=c) (sig:=sig) (k:=k); have:=g.1.some_; simp only[aS]; have:(⟨#[48,43,49,45]⟩:ByteArray).size=4:=rfl; omega))) ?_
 refine w_ ?_
 refine Qc ?_
 refine w4 ?_
 refine Qc ?_
 refine l0_ ?_
 exact Wk.of [] rfl ⟨rfl,rfl,rfl,rfl,(show some (lf (dS ((Jy c sig k)++((⟨#[48,43,49,45]⟩:ByteArray).extract (d).toNat (d+1).toNat))))=some (lf (dS (Jy c sig (k+1)))) from congrArg (fun z_=>some (lf (dS z_))) (QrX K)),rfl,rfl,rfl,trivial⟩ ⟨rfl,trivial⟩ rfl rfl
 refine w7 ?_
 obtain ⟨x,v⟩:=gs w ((sig).toNat)
 have m:=v
 refine w_ ?_
 refine lc (Qp (Qa rfl) (Qs 49 rfl) rfl) ?_
 refine w_ ?_
 cases o:(decide (x=49))
 have q:=aa o
 refine w7 ?_
 refine lc (dK (Vw c (k:Int) sig) QcC) ?_
 refine w_ ?_
 cases B:(VN c (k:Int) sig)
 refine w2 ?_
 refine YL (f _ ⟨0,(by exact Qsc j m ‹_› ‹_›),(by omega),rfl⟩) ?_
 exact wo []
 refine w6 ?_
 refine YL (f _ ⟨(0+1),(by exact Qr5 j m ‹_› ‹_›),(by omega),rfl⟩) ?_
 exact wo []
 have q:=ab o
 refine w9 ?_
 refine lc (dK (Vw c (k:Int) sig) QcC) ?_
 refine w_ ?_
 cases C:(VN c (k:Int) sig)
 refine w2 ?_
 refine YL (f _ ⟨2,(by exact Qsq j m ‹_› ‹_›),(by omega),rfl⟩) ?_
 exact wo []
 refine w6 ?_
 refine YL (f _ ⟨(2+1),(by exact Qso j m ‹_› ‹_›),(by omega),rfl⟩) ?_
 exact wo []
theorem Jf (code:List UInt8)(at_:Int)(sd:Int)(c:Z9)[∀c,Decidable (SgOk c)](ha:0≤at_∧at_≤900000000)(hn:c.1.length≤8∧c.2.1.length≤1000):FC Tryz.prog 192 [(false,[.ptr 0 0]),(true,[.dat Qj c.1, .dat Qm c.2.1, .dat Qw c.2.2])] [bx 0 119 [.dat QP code,dI at_, .val (.int .u64 sd)]] 1 (Is (lf (dS ((sgD code c at_ sd).1))) [bx 0 119 [.dat QP code,dI ((sgD code c at_ sd).2.1), .val (.int .u64 ((sgD code c at_ sd).2.2))]]):=by
 refine Qu Tryz.func192 rfl rfl Tryz.ntmps192 fun Y y X O Z R Q=> ?_
 refine w_ ?_
 refine xbx 1 ?_
 refine w2 ?_
 refine Qcm (fun v=>∃(a_:Int) (d_:Int),(sgD code c at_ sd=tlG code c.2.1.length (ByteArray.empty,a_,d_))∧(at_≤a_∧a_≤at_+10)∧v=⟨[(0,lP 0 0),(3,lP 1 0)],[bx 0 119 [.dat QP code,dI a_, .val (.int .u64 d_)],bx 1 27 [.dat Qj c.1, .dat Qm c.2.1, .dat Qw c.2.2]]⟩) ?_ fun G=> ?_
 rintro v ⟨a_,d_,D,hb,rfl⟩
 refine w7 ?_
 refine alL 62 fun _=> ?_
 refine w4 ?_
 refine QQ (fun N v=>∃(k:Nat) (m:ByteArray) (b_:Int) (e_:Int),k≤c.2.1.length∧N=c.2.1.length - k∧((m,b_,e_)=tlG code k (ByteArray.empty,a_,d_))∧(m.size≤k)∧(a_≤b_∧b_≤a_+2*k)∧v=⟨[(0,lP 0 0),(10,lf (dS m)),(63,lI (c.2.1.length:Int)),(64,lI (k:Int))],[bx 0 119 [.dat QP code,dI b_, .val (.int .u64 e_)]]⟩) ⟨0,(⟨#[]⟩:ByteArray),a_,d_,aP _,rfl,rfl,(aP _),(by omega),rfl⟩ ?_ ?_
 exact wo []
 rintro N v ⟨k,m,b_,e_,U,V,w,hw,T,rfl⟩
 refine w4 ?_
 cases r:(decide ((k:Int) < (c.2.1.length:Int)))
 have s:=aa r
 refine w8 ?_
 have P:(m:ByteArray)=((sgD code c at_ sd).1):=by
  (rw[Qsa D w (by omega)]; done)
 exact fi_ [] y ⟨(((congrArg (fun z_=>some (Ent.box 119 [.dat QP code,dI z_, .val (.int .u64 e_)])) (show (b_:Int)=((sgD code c at_ sd).2.1) by (rw[Qsa D w (by omega)]; done)))).trans (congrArg (fun z_:Int=>some (Ent.box 119 [.dat QP code,dI ((sgD code c at_ sd).2.1), .val (.int .u64 z_)])) (show (e_:Int)=((sgD code c at_ sd).2.2) by (rw[Qsa D w (by omega)]; done)))),trivial⟩ (h0:=by rw[← P] <;> rfl)
 have s:=ab r
 refine w7 ?_
 refine lc (dBs 2 (e:= .str) WE) ?_
 have W:=Zy code b_ e_ (([(⟨#[48]⟩:ByteArray),(⟨#[43]⟩:ByteArray),(⟨#[49]⟩:ByteArray),(⟨#[45]⟩:ByteArray),(⟨#[48]⟩:ByteArray)]).length:Int)
 refine lc (dP 3 [(1,2)] (X5 code b_ e_ ([(⟨#[48]⟩:ByteArray),(⟨#[43]⟩:ByteArray),(⟨#[49]⟩:ByteArray),(⟨#[45]⟩:ByteArray),(⟨#[48]⟩:ByteArray)]) (by omega) (by decide)) Qap) ?_
 refine lc (Q8 (Qa rfl) (Qa rfl) rfl (by first | (have h:=WT [(⟨#[48]⟩:ByteArray),(⟨#[43]⟩:ByteArray),(⟨#[49]⟩:ByteArray),(⟨#[45]⟩:ByteArray),(⟨#[48]⟩:ByteArray)] (by decide+kernel) (pkV code b_ e_ ([(⟨#[48]⟩:ByteArray),(⟨#[43]⟩:ByteArray),(⟨#[49]⟩:ByteArray),(⟨#[45]⟩:ByteArray),(⟨#[48]⟩:ByteArray)].length:Int)).toNat; omega) | (have g:=WT [(⟨#[48]⟩:ByteArray),(⟨#[43]⟩:ByteArray),(⟨#[49]⟩:ByteArray),(⟨#[45]⟩:ByteArray)] (by decide+kernel) (pkV code (pkA 2 (pkA 3 at_)) (pkS code (pkA 3 at_) (pkS code at_ sd 3) 2) ([(⟨#[48]⟩:ByteArray),(⟨#[43]⟩:ByteArray),(⟨#[49]⟩:ByteArray),(⟨#[45]⟩:ByteArray)].length:Int)).toNat; have h:=Qpd (k:=k) g; omega))) ?_
 refine w_ ?_
 refine Qc ?_
 refine w4 ?_
 refine Qc<|Zs ⟨k+1,(m++((([(⟨#[48]⟩:ByteArray),(⟨#[43]⟩:ByteArray),(⟨#[49]⟩:ByteArray),(⟨#[45]⟩:ByteArray),(⟨#[48]⟩:ByteArray)])[(pkV code b_ e_ (([(⟨#[48]⟩:ByteArray),(⟨#[43]⟩:ByteArray),(⟨#[49]⟩:ByteArray),(⟨#[45]⟩:ByteArray),(⟨#[48]⟩:ByteArray)]).length:Int)).toNat]?).getD ByteArray.empty)),(pkA (([(⟨#[48]⟩:ByteArray),(⟨#[43]⟩:ByteArray),(⟨#[49]⟩:ByteArray),(⟨#[45]⟩:ByteArray),(⟨#[48]⟩:ByteArray)]).length:Int) b_),(pkS code b_ e_ (([(⟨#[48]⟩:ByteArray),(⟨#[43]⟩:ByteArray),(⟨#[49]⟩:ByteArray),(⟨#[45]⟩:ByteArray),(⟨#[48]⟩:ByteArray)]).length:Int)),by omega,rfl,(QvH w),(by have:=WT [(⟨#[48]⟩:ByteArray),(⟨#[43]⟩:ByteArray),(⟨#[49]⟩:ByteArray),(⟨#[45]⟩:ByteArray),(⟨#[48]⟩:ByteArray)] (by decide+kernel) (pkV code b_ e_ ([(⟨#[48]⟩:ByteArray),(⟨#[43]⟩:ByteArray),(⟨#[49]⟩:ByteArray),(⟨#[45]⟩:ByteArray),(⟨#[48]⟩:ByteArray)].length:Int)).toNat; rw[aQ]; omega),(by omega),rfl⟩ (by omega) ?_
 exact wo []
 refine w3 ?_
 refine lc (dK (Zz c) Yy) ?_
 refine w_ ?_
 cases d:(decide (SgOk c))
 have t:=aa d
 refine w9 ?_
 refine lc (dK (Zz c) Yy) ?_
 refine w_ ?_
 have E:(decide (SgOk c))=false:=d
 try rw[E]
 refine w9 ?_
 refine lc (dK (Zz c) Yy) ?_
 refine w_ ?_
 have o:(decide (SgOk c))=false:=d
 try rw[o]
 refine w2 ?_
 refine YL (G _ ⟨at_,sd,(by exact QtZ ‹_›),(by omega),rfl⟩) ?_
 exact wo []
 have t:=ab d
 refine w_ ?_
 have H:=Zy code at_ sd 3
 refine lgy rfl rfl (dP 5 [] (XU code at_ sd 3 (by omega)) JQ) ?_
 refine w2 ?_
 refine cd_ (fun _ _=> ?_) fun _ _=> ?_
 refine w4 ?_
 refine lc (dK (Zz c) Yy) ?_
 refine w_ ?_
 have p:(decide (SgOk c))=true:=d
 try rw[p]
 refine w_ ?_
 have I:=Zy code (pkA 3 at_) (pkS code at_ sd 3) 2
 refine lgy rfl rfl (dP 6 [] (XU code (pkA 3 at_) (pkS code at_ sd 3) 2 (by omega)) JQ) ?_
 refine w2 ?_
 refine cd_ (fun _ _=> ?_) fun _ _=> ?_
 refine w4 ?_
 refine lc (dK (Zz c) Yy) ?_
 refine w_ ?_
 have q:(decide (SgOk c))=true:=d
 try rw[q]
 refine w3 ?_
 refine lc (dK (HV c ‹_›).frozen Qjz) ?_
 refine w4 ?_
 refine alL 51 fun _=> ?_
 refine w3 ?_
 refine cd_ (fun _ _=> ?_) fun _ _=> ?_
 refine w_ ?_
 refine YL (G _ ⟨(pkA 2 (pkA 3 at_)),(pkS code (pkA 3 at_) (pkS code at_ sd 3) 2),(by exact Quu ‹_› ‹_› ‹_› ‹_›),(by omega),rfl⟩) ?_
 exact wo []
 refine w4 ?_
 refine alL 56 fun _=> ?_
 refine w_ ?_
 have J:=Zy code (pkA 2 (pkA 3 at_)) (pkS code (pkA 3 at_) (pkS code at_ sd 3) 2) ((Ve c).length:Int)
 refine lc (dP 7 [] (QN code (pkA 2 (pkA 3 at_)) (pkS code (pkA 3 at_) (pkS code at_ sd 3) 2) ((Ve c).length:Int) (by omega)) ZU) ?_
 obtain ⟨F,u⟩:=gx (Ve c) ((pkV code (pkA 2 (pkA 3 at_)) (pkS code (pkA 3 at_) (pkS code at_ sd 3) 2) ((Ve c).length:Int)).toNat)
 have l:=u
 refine w5 ?_
 have A:(F:ByteArray)=((sgD code c at_ sd).1):=by
  (rw[QsB ‹_› ‹_› ‹_› ‹_› l]; done)
 exact fi_ [] y ⟨(((congrArg (fun z_=>some (Ent.box 119 [.dat QP code,dI z_, .val (.int .u64 (pkS code (pkA 2 (pkA 3 at_)) (pkS code (pkA 3 at_) (pkS code at_ sd 3) 2) ((Ve c).length:Int)))])) (show ((pkA ((Ve c).length:Int) (pkA 2 (pkA 3 at_))):Int)=((sgD code c at_ sd).2.1) by (rw[QsB ‹_› ‹_› ‹_› ‹_› l]; done)))).trans (congrArg (fun z_:Int=>some (Ent.box 119 [.dat QP code,dI ((sgD code c at_ sd).2.1), .val (.int .u64 z_)])) (show ((pkS code (pkA 2 (pkA 3 at_)) (pkS code (pkA 3 at_) (pkS code at_ sd 3) 2) ((Ve c).length:Int)):Int)=((sgD code c at_ sd).2.2) by (rw[QsB ‹_› ‹_› ‹_› ‹_› l]; done)))),trivial⟩ (h0:=by rw[← A] <;> rfl)
 refine w5 ?_
 refine lc (dBs 8 (e:= .str) WE) ?_
 have K:=Zy code (pkA 2 (pkA 3 at_)) (pkS code (pkA 3 at_) (pkS code at_ sd 3) 2) (([(⟨#[48]⟩:ByteArray),(⟨#[43]⟩:ByteArray),(⟨#[49]⟩:ByteArray),(⟨#[45]⟩:ByteArray)]).length:Int)
 refine lc (dP 9 [(1,8)] (X5 code (pkA 2 (pkA 3 at_)) (pkS code (pkA 3 at_) (pkS code at_ sd 3) 2) ([(⟨#[48]⟩:ByteArray),(⟨#[43]⟩:ByteArray),(⟨#[49]⟩:ByteArray),(⟨#[45]⟩:ByteArray)]) (by omega) (by decide)) Qap) ?_
 refine w6 ?_
 refine alL 38 fun _=> ?_
 refine w4 ?_
 refine lp0 c.2.1.length (fun k=>⟨[(0,lP 0 0),(3,lP 1 0),(4,lf (dS (⟨#[]⟩:ByteArray))),(7,lf (dS (rpT (([(⟨#[48]⟩:ByteArray),(⟨#[43]⟩:ByteArray),(⟨#[49]⟩:ByteArray),(⟨#[45]⟩:ByteArray)][(pkV code (pkA 2 (pkA 3 at_)) (pkS code (pkA 3 at_) (pkS code at_ sd 3) 2) ([(⟨#[48]⟩:ByteArray),(⟨#[43]⟩:ByteArray),(⟨#[49]⟩:ByteArray),(⟨#[45]⟩:ByteArray)].length:Int)).toNat]?).getD ByteArray.empty) k))),(8,lf (dS ((([(⟨#[48]⟩:ByteArray),(⟨#[43]⟩:ByteArray),(⟨#[49]⟩:ByteArray),(⟨#[45]⟩:ByteArray)])[(pkV code (pkA 2 (pkA 3 at_)) (pkS code (pkA 3 at_) (pkS code at_ sd 3) 2) (([(⟨#[48]⟩:ByteArray),(⟨#[43]⟩:ByteArray),(⟨#[49]⟩:ByteArray),(⟨#[45]⟩:ByteArray)]).length:Int)).toNat]?).getD ByteArray.empty))),(39,lI (c.2.1.length:Int)),(40,lI (k:Int))],[bx 0 119 [.dat QP code,dI (pkA (([(⟨#[48]⟩:ByteArray),(⟨#[43]⟩:ByteArray),(⟨#[49]⟩:ByteArray),(⟨#[45]⟩:ByteArray)]).length:Int) (pkA 2 (pkA 3 at_))), .val (.int .u64 (pkS code (pkA 2 (pkA 3 at_)) (pkS code (pkA 3 at_) (pkS code at_ sd 3) 2) (([(⟨#[48]⟩:ByteArray),(⟨#[43]⟩:ByteArray),(⟨#[49]⟩:ByteArray),(⟨#[45]⟩:ByteArray)]).length:Int)))],bx 1 27 [.dat Qj c.1, .dat Qm c.2.1, .dat Qw c.2.2]]⟩) ?_ fun k _=> ?_
 exact Wk.of [] rfl ⟨rfl,rfl,rfl,(show some (lf (dS (⟨#[]⟩:ByteArray)))=some (lf (dS (rpT (([(⟨#[48]⟩:ByteArray),(⟨#[43]⟩:ByteArray),(⟨#[49]⟩:ByteArray),(⟨#[45]⟩:ByteArray)][(pkV code (pkA 2 (pkA 3 at_)) (pkS code (pkA 3 at_) (pkS code at_ sd 3) 2) ([(⟨#[48]⟩:ByteArray),(⟨#[43]⟩:ByteArray),(⟨#[49]⟩:ByteArray),(⟨#[45]⟩:ByteArray)].length:Int)).toNat]?).getD ByteArray.empty) 0))) from congrArg (fun z_=>some (lf (dS z_))) (rfl)),rfl,rfl,rfl,trivial⟩ ⟨rfl,rfl,trivial⟩ rfl rfl
 refine w4 ?_
 cases f:(decide ((k:Int) < (c.2.1.length:Int)))
 have j:=aa f
 refine w8 ?_
 have B:(rpT (([(⟨#[48]⟩:ByteArray),(⟨#[43]⟩:ByteArray),(⟨#[49]⟩:ByteArray),(⟨#[45]⟩:ByteArray)][(pkV code (pkA 2 (pkA 3 at_)) (pkS code (pkA 3 at_) (pkS code at_ sd 3) 2) ([(⟨#[48]⟩:ByteArray),(⟨#[43]⟩:ByteArray),(⟨#[49]⟩:ByteArray),(⟨#[45]⟩:ByteArray)].length:Int)).toNat]?).getD ByteArray.empty) k:ByteArray)=((sgD code c at_ sd).1):=by
  (rw[Qsp (k:=k) ‹_› ‹_› ‹_› (by omega)]; done)
 exact fi_ [] y ⟨(((congrArg (fun z_=>some (Ent.box 119 [.dat QP code,dI z_, .val (.int .u64 (pkS code (pkA 2 (pkA 3 at_)) (pkS code (pkA 3 at_) (pkS code at_ sd 3) 2) (([(⟨#[48]⟩:ByteArray),(⟨#[43]⟩:ByteArray),(⟨#[49]⟩:ByteArray),(⟨#[45]⟩:ByteArray)]).length:Int)))])) (show ((pkA (([(⟨#[48]⟩:ByteArray),(⟨#[43]⟩:ByteArray),(⟨#[49]⟩:ByteArray),(⟨#[45]⟩:ByteArray)]).length:Int) (pkA 2 (pkA 3 at_))):Int)=((sgD code c at_ sd).2.1) by (rw[Qsp (k:=k) ‹_› ‹_› ‹_› (by omega)]; done)))).trans (congrArg (fun z_:Int=>some (Ent.box 119 [.dat QP code,dI ((sgD code c at_ sd).2.1), .val (.int .u64 z_)])) (show ((pkS code (pkA 2 (pkA 3 at_)) (pkS code (pkA 3 at_) (pkS code at_ sd 3) 2) (([(⟨#[48]⟩:ByteArray),(⟨#[43]⟩:ByteArray),(⟨#[49]⟩:ByteArray),(⟨#[45]⟩:ByteArray)]).length:Int)):Int)=((sgD code c at_ sd).2.2) by (rw[Qsp (k:=k) ‹_› ‹_› ‹_› (by omega)]; done)))),trivial⟩ (h0:=by rw[B] <;> rfl)
 have j:=ab f
 refine w7 ?_
 refine lc (Q8 (Qa rfl) (Qa rfl) rfl (by first | (have h:=WT [(⟨#[48]⟩:ByteArray),(⟨#[43]⟩:ByteArray),(⟨#[49]⟩:ByteArray),(⟨#[45]⟩:ByteArray),(⟨#[48]⟩:ByteArray)] (by decide+kernel) (pkV code b_ e_ ([(⟨#[48]⟩:ByteArray),(⟨#[43]⟩:ByteArray),(⟨#[49]⟩:ByteArray),(⟨#[45]⟩:ByteArray),(⟨#[48]⟩:ByteArray)].length:Int)).toNat; omega) | (have g:=WT [(⟨#[48]⟩:ByteArray),(⟨#[43]⟩:ByteArray),(⟨#[49]⟩:ByteArray),(⟨#[45]⟩:ByteArray)] (by decide+kernel) (pkV code (pkA 2 (pkA 3 at_)) (pkS code (pkA 3 at_) (pkS code at_ sd 3) 2) ([(⟨#[48]⟩:ByteArray),(⟨#[43]⟩:ByteArray),(⟨#[49]⟩:ByteArray),(⟨#[45]⟩:ByteArray)].length:Int)).toNat; have h:=Qpd (k:=k) g; omega))) ?_
 refine w_ ?_
 refine Qc ?_
 refine w4 ?_
 refine Qc ?_
 refine l0_ ?_
 exact Wk.of [] rfl ⟨rfl,rfl,rfl,(show some (lf (dS ((rpT (([(⟨#[48]⟩:ByteArray),(⟨#[43]⟩:ByteArray),(⟨#[49]⟩:ByteArray),(⟨#[45]⟩:ByteArray)][(pkV code (pkA 2 (pkA 3 at_)) (pkS code (pkA 3 at_) (pkS code at_ sd 3) 2) ([(⟨#[48]⟩:ByteArray),(⟨#[43]⟩:ByteArray),(⟨#[49]⟩:ByteArray),(⟨#[45]⟩:ByteArray)].length:Int)).toNat]?).getD ByteArray.empty) k)++((([(⟨#[48]⟩:ByteArray),(⟨#[43]⟩:ByteArray),(⟨#[49]⟩:ByteArray),(⟨#[45]⟩:ByteArray)])[(pkV code (pkA 2 (pkA 3 at_)) (pkS code (pkA 3 at_) (pkS code at_ sd 3) 2) (([(⟨#[48]⟩:ByteArray),(⟨#[43]⟩:ByteArray),(⟨#[49]⟩:ByteArray),(⟨#[45]⟩:ByteArray)]).length:Int)).toNat]?).getD ByteArray.empty))))=some (lf (dS (rpT (([(⟨#[48]⟩:ByteArray),(⟨#[43]⟩:ByteArray),(⟨#[49]⟩:ByteArray),(⟨#[45]⟩:ByteArray)][(pkV code (pkA 2 (pkA 3 at_)) (pkS code (pkA 3 at_) (pkS code at_ sd 3) 2) ([(⟨#[48]⟩:ByteArray),(⟨#[43]⟩:ByteArray),(⟨#[49]⟩:ByteArray),(⟨#[45]⟩:ByteArray)].length:Int)).toNat]?).getD ByteArray.empty) (k+1)))) from congrArg (fun z_=>some (lf (dS z_))) (rfl)),rfl,rfl,rfl,trivial⟩ ⟨rfl,rfl,trivial⟩ rfl rfl
 have M:=Zy code (pkA 3 at_) (pkS code at_ sd 3) (c.1.length:Int)
 apply dW (i5 18 _ _ _ _ _ (⟨some 23,lI (pkV code (pkA 3 at_) (pkS code at_ sd 3) (c.1.length:Int)),[bx 0 119 [.dat QP code,dI (pkA (c.1.length:Int) (pkA 3 at_)), .val (.int .u64 (pkS code (pkA 3 at_) (pkS code at_ sd 3) (c.1.length:Int)))],(0,none)]⟩ :: io 24 (PV.tup [(false,[dS (QfF c (pkV code (pkA 3 at_) (pkS code at_ sd 3) (c.1.length:Int)))]),(false,[dB (decide (SgOk c∧(0≤(pkV code (pkA 3 at_) (pkS code at_ sd 3) (c.1.length:Int))∧(pkV code (pkA 3 at_) (pkS code at_ sd 3) (c.1.length:Int))≤(c.1.length:Int) - 1)))])]) :: io 17 _ :: i2 25 _ _ (i2 5 _ _ []))) [0,1,3,3,3,1,0,0,0,256,512,0]
 refine z5 ?_
 refine zz (fun _ S=>ac (dP 11 [] (QN code (pkA 3 at_) (pkS code at_ sd 3) (c.1.length:Int) (by omega)) ZU) rfl) ?_
 refine zz (fun _ S=>ac (dK (VK c (pkV code (pkA 3 at_) (pkS code at_ sd 3) (c.1.length:Int))) QiA) rfl) ?_
 exact y5
 refine w5 ?_
 have C:(QfF c (pkV code (pkA 3 at_) (pkS code at_ sd 3) (c.1.length:Int)):ByteArray)=((sgD code c at_ sd).1):=by
  (rw[Qth ‹_› ‹_›]; done)
 exact fi_ [] y ⟨(((congrArg (fun z_=>some (Ent.box 119 [.dat QP code,dI z_, .val (.int .u64 (pkS code (pkA 3 at_) (pkS code at_ sd 3) (c.1.length:Int)))])) (show ((pkA (c.1.length:Int) (pkA 3 at_)):Int)=((sgD code c at_ sd).2.1) by (rw[Qth ‹_› ‹_›]; done)))).trans (congrArg (fun z_:Int=>some (Ent.box 119 [.dat QP code,dI ((sgD code c at_ sd).2.1), .val (.int .u64 z_)])) (show ((pkS code (pkA 3 at_) (pkS code at_ sd 3) (c.1.length:Int)):Int)=((sgD code c at_ sd).2.2) by (rw[Qth ‹_› ‹_›]; done)))),trivial⟩ (h0:=by rw[C] <;> rfl)
section
variable {c:DSg}{code:List UInt8}{a0 d0:Int}
def anD (code:List UInt8)(c:DSg)(a d:Int)[Decidable (SgOk c)]:ByteArray×Int×Int:=
 if pkV code (sgD code c a d).2.1 (sgD code c a d).2.2 10=0 then spV code ⟨#[48,49,43,45,120]⟩ (sgD code c a d).1 (pkA 10 (sgD code c a d).2.1) (pkS code (sgD code c a d).2.1 (sgD code c a d).2.2 10)
 else ((sgD code c a d).1,pkA 10 (sgD code c a d).2.1,pkS code (sgD code c a d).2.1 (sgD code c a d).2.2 10)
theorem QjL (code:List UInt8)(c:DSg)[Decidable (SgOk c)](a d:Int):a≤(anD code c a d).2.1∧(anD code c a d).2.1≤a+22+2*c.2.1.length:=by
 have e:=Qj0 code c a d
 have f:=Zy code (sgD code c a d).2.1 (sgD code c a d).2.2 10
 have g:=Qi1 code ⟨#[48,49,43,45,120]⟩ (sgD code c a d).1 (pkA 10 (sgD code c a d).2.1) (pkS code (sgD code c a d).2.1 (sgD code c a d).2.2 10)
 unfold anD
 split
 ·exact ⟨by omega,by omega⟩
 ·exact ⟨by dsimp only; omega,by dsimp only; omega⟩
theorem Qsf [Decidable (SgOk c)](h:pkV code (sgD code c a0 d0).2.1 (sgD code c a0 d0).2.2 10=0):anD code c a0 d0=spV code ⟨#[48,49,43,45,120]⟩ (sgD code c a0 d0).1 (pkA 10 (sgD code c a0 d0).2.1) (pkS code (sgD code c a0 d0).2.1 (sgD code c a0 d0).2.2 10):=if_pos h
theorem Qr7 [Decidable (SgOk c)](h:¬pkV code (sgD code c a0 d0).2.1 (sgD code c a0 d0).2.2 10=0):anD code c a0 d0=((sgD code c a0 d0).1,pkA 10 (sgD code c a0 d0).2.1,pkS code (sgD code c a0 d0).2.1 (sgD code c a0 d0).2.2 10):=if_neg h
end
theorem XJ (code:List UInt8)(at_:Int)(sd:Int)(c:Z9)[∀c,Decidable (SgOk c)](t:0≤at_∧at_≤800000000)(l:c.1.length≤8∧c.2.1.length≤1000):FC Tryz.prog 88 [(false,[.ptr 0 0]),(true,[.dat Qj c.1, .dat Qm c.2.1, .dat Qw c.2.2])] [bx 0 119 [.dat QP code,dI at_, .val (.int .u64 sd)]] 1 (Is (lf (dS ((anD code c at_ sd).1))) [bx 0 119 [.dat QP code,dI ((anD code c at_ sd).2.1), .val (.int .u64 ((anD code c at_ sd).2.2))]]):=by
 refine Qu Tryz.func88 rfl rfl Tryz.ntmps88 fun r d q e s j h=> ?_
 refine w_ ?_
 refine xbx 1 ?_
 refine w5 ?_
 have m:=Qj0 code c at_ sd
 refine lc (dP 2 [] (Jf code at_ sd c (by omega) l) Qjc) ?_
 refine w5 ?_
 have o:=Zy code ((sgD code c at_ sd).2.1) ((sgD code c at_ sd).2.2) 10
 refine lc (dP 3 [] (XU code ((sgD code c at_ sd).2.1) ((sgD code c at_ sd).2.2) 10 (by omega)) JQ) ?_
 refine w_ ?_
 refine cd_ (fun _ _=> ?_) fun _ _=> ?_
 refine w6 ?_
 have f:((sgD code c at_ sd).1:ByteArray)=((anD code c at_ sd).1):=by
  (rw[Qr7 ‹_›]; done)
 exact fi_ [] d ⟨(((congrArg (fun z_=>some (Ent.box 119 [.dat QP code,dI z_, .val (.int .u64 (pkS code ((sgD code c at_ sd).2.1) ((sgD code c at_ sd).2.2) 10))])) (show ((pkA 10 ((sgD code c at_ sd).2.1)):Int)=((anD code c at_ sd).2.1) by (rw[Qr7 ‹_›]; done)))).trans (congrArg (fun z_:Int=>some (Ent.box 119 [.dat QP code,dI ((anD code c at_ sd).2.1), .val (.int .u64 z_)])) (show ((pkS code ((sgD code c at_ sd).2.1) ((sgD code c at_ sd).2.2) 10):Int)=((anD code c at_ sd).2.2) by (rw[Qr7 ‹_›]; done)))),trivial⟩ (h0:=by rw[f] <;> rfl)
 refine w3 ?_
 have p:=Qi1 code (⟨#[48,49,43,45,120]⟩:ByteArray) ((sgD code c at_ sd).1) (pkA 10 ((sgD code c at_ sd).2.1)) (pkS code ((sgD code c at_ sd).2.1) ((sgD code c at_ sd).2.2) 10)
 refine lc (dP 4 [] (Wo code (pkA 10 ((sgD code c at_ sd).2.1)) (pkS code ((sgD code c at_ sd).2.1) ((sgD code c at_ sd).2.2) 10) ((sgD code c at_ sd).1) (⟨#[48,49,43,45,120]⟩:ByteArray) (by omega) ⟨by omega,by decide⟩) Qc1) ?_
 refine w7 ?_
 have g:((spV code (⟨#[48,49,43,45,120]⟩:ByteArray) ((sgD code c at_ sd).1) (pkA 10 ((sgD code c at_ sd).2.1)) (pkS code ((sgD code c at_ sd).2.1) ((sgD code c at_ sd).2.2) 10)).1:ByteArray)=((anD code c at_ sd).1):=by
  (rw[Qsf ‹_›]; done)
 exact fi_ [] d ⟨(((congrArg (fun z_=>some (Ent.box 119 [.dat QP code,dI z_, .val (.int .u64 ((spV code (⟨#[48,49,43,45,120]⟩:ByteArray) ((sgD code c at_ sd).1) (pkA 10 ((sgD code c at_ sd).2.1)) (pkS code ((sgD code c at_ sd).2.1) ((sgD code c at_ sd).2.2) 10)).2.2))])) (show (((spV code (⟨#[48,49,43,45,120]⟩:ByteArray) ((sgD code c at_ sd).1) (pkA 10 ((sgD code c at_ sd).2.1)) (pkS code ((sgD code c at_ sd).2.1) ((sgD code c at_ sd).2.2) 10)).2.1):Int)=((anD code c at_ sd).2.1) by (rw[Qsf ‹_›]; done)))).trans (congrArg (fun z_:Int=>some (Ent.box 119 [.dat QP code,dI ((anD code c at_ sd).2.1), .val (.int .u64 z_)])) (show (((spV code (⟨#[48,49,43,45,120]⟩:ByteArray) ((sgD code c at_ sd).1) (pkA 10 ((sgD code c at_ sd).2.1)) (pkS code ((sgD code c at_ sd).2.1) ((sgD code c at_ sd).2.2) 10)).2.2):Int)=((anD code c at_ sd).2.2) by (rw[Qsf ‹_›]; done)))),trivial⟩ (h0:=by rw[g] <;> rfl)
theorem Wx (code:List UInt8)[∀s,Decidable (StgOk s)][∀s,Decidable (Xa s)][∀c,Decidable (SgOk c)]:FC Tryz.prog 91 [(false,[.dat QP code])] [] 0 (Ex (fun x:DSg×ByteArray=>x.1.1.length≤8) (fun x:DSg×ByteArray=>PV.tup [(true,[.dat Qj x.1.1, .dat Qm x.1.2.1, .dat Qw x.1.2.2]),(false,[dS x.2])]) (fun x:DSg×ByteArray=>[])):=by
 refine Qu Tryz.func91 rfl rfl Tryz.ntmps91 fun p j o f q h g=> ?_
 refine w_ ?_
 refine lc (xal 0 Wm ZI) ?_
 refine w4 ?_
 refine lc (QaL [.val (.slice none 0 0),dI 0, .val (.int .u64 0)] (QkL (offs:=[(0,1),(1,1),(2,1)]) (zs:=[.slice none 0 0, .int .i64 0, .int .u64 0]) Tryz.underlying119 (by kernel_rfl) (by kernel_rfl)) (fun _ _ _=>⟨_,_,rfl,rfl,⟨_,_,rfl,(WL _ _ _ .int).one rfl,⟨_,_,rfl,rfl,rfl⟩⟩⟩) ⟨_,_,rfl,(Qr rfl),rfl⟩ (aq.1 rfl) rfl rfl) ?_
 refine xbx 1 ?_
 refine w4 ?_
 refine YQ 2 [(0,1)] (XM code 0 0 (by omega)) Qd0 e1_ ⟨rfl,trivial⟩ rfl (fun _=>rfl) (fun _=>⟨trivial,trivial⟩) (nlr rfl) fun d m=>lc (xal 3 Wm ZI) ?_
 refine w2 ?_
 have l:=QjL code d.1 d.2.1 d.2.2
 apply dW (i3 11 _ _ _ [⟨some 14,lf (dS ((anD code d.1 d.2.1 d.2.2).1)),[bx 1 119 [.dat QP code,dI ((anD code d.1 d.2.1 d.2.2).2.1), .val (.int .u64 ((anD code d.1 d.2.1 d.2.2).2.2))],(1,none)]⟩,⟨none,lf (.val undef),[bx 0 27 [.dat Qj d.1.1, .dat Qm d.1.2.1, .dat Qw d.1.2.2]]⟩,io 3 _]) [0,1,3,1,0,0]
 refine z3 ?_
 refine zz (fun _ e=>ac (dP 4 [(0,1)] (XJ code d.2.1 d.2.2 d.1 (by omega) (by have e:=‹_≤8∧_›; omega)) QdR) rfl) ?_
 exact y2
 refine w_ ?_
 subst j
 refine Za (x:=((d.1.1,(d.1.2.1,d.1.2.2)),(anD code d.1 d.2.1 d.2.2).1)) [] ?_ (Xh rfl (Rs.cell rfl rfl XQ rfl) (XE rfl)) rfl trivial rfl rfl
 (have e:=‹_≤8∧_›; exact e.1)
theorem VM (code:List UInt8)[∀s,Decidable (StgOk s)][∀s,Decidable (Xa s)][∀c,Decidable (SgOk c)]:FC Tryz.prog 14 [(false,[.dat QP code])] [] 0 (Ex (fun x:DSg×ByteArray=>x.1.1.length≤8) (fun x:DSg×ByteArray=>PV.tup [(true,[.dat Qj x.1.1, .dat Qm x.1.2.1, .dat Qw x.1.2.2]),(false,[dS x.2])]) (fun x:DSg×ByteArray=>[])):=by
 refine Qu Tryz.func14 rfl rfl Tryz.ntmps14 fun m h l e o g f=> ?_
 refine w_ ?_
 refine lc (xal 0 Wm ZI) ?_
 refine w4 ?_
 refine YQ 1 [] (Wx code) Ql7 e1_ trivial rfl (fun _=>rfl) (fun _=>trivial) (nlr rfl) fun d j=> ?_
 refine w6 ?_
 subst h
 refine Za (x:=((d.1.1,(d.1.2.1,d.1.2.2)),d.2)) [] ?_ (Xh rfl (Rs.cell rfl rfl XQ rfl) (XE rfl)) rfl trivial rfl rfl
 assumption
theorem Vz (code:List UInt8)[∀s,Decidable (StgOk s)][∀s,Decidable (Xa s)][∀c,Decidable (SgOk c)]:FC Tryz.prog 9 [(false,[.dat QP code])] [] 0 (Ex (fun x:DSg×ByteArray×ByteArray=>x.1.1.length≤8∧x.2.1.size≤7) (fun x:DSg×ByteArray×ByteArray=>PV.tup [(true,[.dat Qj x.1.1, .dat Qm x.1.2.1, .dat Qw x.1.2.2]),(false,[dS x.2.1]),(false,[dS x.2.2])]) (fun x:DSg×ByteArray×ByteArray=>[])):=by
 refine Qu Tryz.func9 rfl rfl Tryz.ntmps9 fun r l q g t j h=> ?_
 refine w_ ?_
 refine lc (xal 0 Wm ZI) ?_
 refine w5 ?_
 refine lc (QaL [.val (.slice none 0 0),dI 0, .val (.int .u64 0)] (QkL (offs:=[(0,1),(1,1),(2,1)]) (zs:=[.slice none 0 0, .int .i64 0, .int .u64 0]) Tryz.underlying119 (by kernel_rfl) (by kernel_rfl)) (fun _ _ _=>⟨_,_,rfl,rfl,⟨_,_,rfl,(WL _ _ _ .int).one rfl,⟨_,_,rfl,rfl,rfl⟩⟩⟩) ⟨_,_,rfl,(Qr rfl),rfl⟩ (aq.1 rfl) rfl rfl) ?_
 refine xbx 1 ?_
 refine w4 ?_
 refine YQ 2 [(0,1)] (XM code 0 0 (by omega)) Qd0 e1_ ⟨rfl,trivial⟩ rfl (fun _=>rfl) (fun _=>⟨trivial,trivial⟩) (nlr rfl) fun d p=>lc (xal 3 Wm ZI) ?_
 refine w2 ?_
 have m:=Zy code d.2.1 d.2.2 (([(⟨#[122]⟩:ByteArray),(⟨#[99,115,99,48]⟩:ByteArray),(⟨#[119]⟩:ByteArray),(⟨#[122]⟩:ByteArray),(⟨#[119]⟩:ByteArray),(⟨#[97]⟩:ByteArray),(⟨#[]⟩:ByteArray),(⟨#[90]⟩:ByteArray)]).length:Int)
 have o:=QjL code d.1 (pkA (([(⟨#[122]⟩:ByteArray),(⟨#[99,115,99,48]⟩:ByteArray),(⟨#[119]⟩:ByteArray),(⟨#[122]⟩:ByteArray),(⟨#[119]⟩:ByteArray),(⟨#[97]⟩:ByteArray),(⟨#[]⟩:ByteArray),(⟨#[90]⟩:ByteArray)]).length:Int) d.2.1) (pkS code d.2.1 d.2.2 (([(⟨#[122]⟩:ByteArray),(⟨#[99,115,99,48]⟩:ByteArray),(⟨#[119]⟩:ByteArray),(⟨#[122]⟩:ByteArray),(⟨#[119]⟩:ByteArray),(⟨#[97]⟩:ByteArray),(⟨#[]⟩:ByteArray),(⟨#[90]⟩:ByteArray)]).length:Int))
 apply dW (i2 12 _ _ (⟨some 14,lR 4,[ar 4 9 .str ([(⟨#[122]⟩:ByteArray),(⟨#[99,115,99,48]⟩:ByteArray),(⟨#[119]⟩:ByteArray),(⟨#[122]⟩:ByteArray),(⟨#[119]⟩:ByteArray),(⟨#[97]⟩:ByteArray),(⟨#[]⟩:ByteArray),(⟨#[90]⟩:ByteArray)])]⟩ :: ⟨some 15,lf (dS ((([(⟨#[122]⟩:ByteArray),(⟨#[99,115,99,48]⟩:ByteArray),(⟨#[119]⟩:ByteArray),(⟨#[122]⟩:ByteArray),(⟨#[119]⟩:ByteArray),(⟨#[97]⟩:ByteArray),(⟨#[]⟩:ByteArray),(⟨#[90]⟩:ByteArray)])[(pkV code d.2.1 d.2.2 (([(⟨#[122]⟩:ByteArray),(⟨#[99,115,99,48]⟩:ByteArray),(⟨#[119]⟩:ByteArray),(⟨#[122]⟩:ByteArray),(⟨#[119]⟩:ByteArray),(⟨#[97]⟩:ByteArray),(⟨#[]⟩:ByteArray),(⟨#[90]⟩:ByteArray)]).length:Int)).toNat]?).getD ByteArray.empty)),[bx 1 119 [.dat QP code,dI (pkA (([(⟨#[122]⟩:ByteArray),(⟨#[99,115,99,48]⟩:ByteArray),(⟨#[119]⟩:ByteArray),(⟨#[122]⟩:ByteArray),(⟨#[119]⟩:ByteArray),(⟨#[97]⟩:ByteArray),(⟨#[]⟩:ByteArray),(⟨#[90]⟩:ByteArray)]).length:Int) d.2.1), .val (.int .u64 (pkS code d.2.1 d.2.2 (([(⟨#[122]⟩:ByteArray),(⟨#[99,115,99,48]⟩:ByteArray),(⟨#[119]⟩:ByteArray),(⟨#[122]⟩:ByteArray),(⟨#[119]⟩:ByteArray),(⟨#[97]⟩:ByteArray),(⟨#[]⟩:ByteArray),(⟨#[90]⟩:ByteArray)]).length:Int)))],ar 6 9 .str ([(⟨#[122]⟩:ByteArray),(⟨#[99,115,99,48]⟩:ByteArray),(⟨#[119]⟩:ByteArray),(⟨#[122]⟩:ByteArray),(⟨#[119]⟩:ByteArray),(⟨#[97]⟩:ByteArray),(⟨#[]⟩:ByteArray),(⟨#[90]⟩:ByteArray)]),(1,none),(4,none)]⟩ :: io 16 (lP 1 0) :: io 17 (ag [.dat Qj d.1.1, .dat Qm d.1.2.1, .dat Qw d.1.2.2]) :: ⟨some 18,lf (dS ((anD code d.1 (pkA (([(⟨#[122]⟩:ByteArray),(⟨#[99,115,99,48]⟩:ByteArray),(⟨#[119]⟩:ByteArray),(⟨#[122]⟩:ByteArray),(⟨#[119]⟩:ByteArray),(⟨#[97]⟩:ByteArray),(⟨#[]⟩:ByteArray),(⟨#[90]⟩:ByteArray)]).length:Int) d.2.1) (pkS code d.2.1 d.2.2 (([(⟨#[122]⟩:ByteArray),(⟨#[99,115,99,48]⟩:ByteArray),(⟨#[119]⟩:ByteArray),(⟨#[122]⟩:ByteArray),(⟨#[119]⟩:ByteArray),(⟨#[97]⟩:ByteArray),(⟨#[]⟩:ByteArray),(⟨#[90]⟩:ByteArray)]).length:Int))).1)),[bx 1 119 [.dat QP code,dI ((anD code d.1 (pkA (([(⟨#[122]⟩:ByteArray),(⟨#[99,115,99,48]⟩:ByteArray),(⟨#[119]⟩:ByteArray),(⟨#[122]⟩:ByteArray),(⟨#[119]⟩:ByteArray),(⟨#[97]⟩:ByteArray),(⟨#[]⟩:ByteArray),(⟨#[90]⟩:ByteArray)]).length:Int) d.2.1) (pkS code d.2.1 d.2.2 (([(⟨#[122]⟩:ByteArray),(⟨#[99,115,99,48]⟩:ByteArray),(⟨#[119]⟩:ByteArray),(⟨#[122]⟩:ByteArray),(⟨#[119]⟩:ByteArray),(⟨#[97]⟩:ByteArray),(⟨#[]⟩:ByteArray),(⟨#[90]⟩:ByteArray)]).length:Int))).2.1), .val (.int .u64 ((anD code d.1 (pkA (([(⟨#[122]⟩:ByteArray),(⟨#[99,115,99,48]⟩:ByteArray),(⟨#[119]⟩:ByteArray),(⟨#[122]⟩:ByteArray),(⟨#[119]⟩:ByteArray),(⟨#[97]⟩:ByteArray),(⟨#[]⟩:ByteArray),(⟨#[90]⟩:ByteArray)]).length:Int) d.2.1) (pkS code d.2.1 d.2.2 (([(⟨#[122]⟩:ByteArray),(⟨#[99,115,99,48]⟩:ByteArray),(⟨#[119]⟩:ByteArray),(⟨#[122]⟩:ByteArray),(⟨#[119]⟩:ByteArray),(⟨#[97]⟩:ByteArray),(⟨#[]⟩:ByteArray),(⟨#[90]⟩:ByteArray)]).length:Int))).2.2))],(1,none)]⟩ :: ⟨none,lf (.val undef),[bx 0 27 [.dat Qj d.1.1, .dat Qm d.1.2.1, .dat Qw d.1.2.2]]⟩ :: i2 3 _ _ [])) [0,1,3,1,15,31,1,0,0,0]
 refine z2 ?_
 refine zz (fun _ f=>ac (dBs 4 (e:= .str) WE) rfl) ?_
 refine zz (fun _ f=>ac (dP 5 [(0,1),(1,4)] (X5 code d.2.1 d.2.2 ([(⟨#[122]⟩:ByteArray),(⟨#[99,115,99,48]⟩:ByteArray),(⟨#[119]⟩:ByteArray),(⟨#[122]⟩:ByteArray),(⟨#[119]⟩:ByteArray),(⟨#[97]⟩:ByteArray),(⟨#[]⟩:ByteArray),(⟨#[90]⟩:ByteArray)]) (by omega) (by decide)) Qap) rfl) ?_
 refine z2 ?_
 refine zz (fun _ f=>ac (dP 7 [(0,1)] (XJ code (pkA (([(⟨#[122]⟩:ByteArray),(⟨#[99,115,99,48]⟩:ByteArray),(⟨#[119]⟩:ByteArray),(⟨#[122]⟩:ByteArray),(⟨#[119]⟩:ByteArray),(⟨#[97]⟩:ByteArray),(⟨#[]⟩:ByteArray),(⟨#[90]⟩:ByteArray)]).length:Int) d.2.1) (pkS code d.2.1 d.2.2 (([(⟨#[122]⟩:ByteArray),(⟨#[99,115,99,48]⟩:ByteArray),(⟨#[119]⟩:ByteArray),(⟨#[122]⟩:ByteArray),(⟨#[119]⟩:ByteArray),(⟨#[97]⟩:ByteArray),(⟨#[]⟩:ByteArray),(⟨#[90]⟩:ByteArray)]).length:Int)) d.1 (by omega) (by have f:=‹_≤8∧_›; omega)) QdR) rfl) ?_
 exact y3
 refine w_ ?_
 subst l
 refine Za (x:=((d.1.1,(d.1.2.1,d.1.2.2)),((([(⟨#[122]⟩:ByteArray),(⟨#[99,115,99,48]⟩:ByteArray),(⟨#[119]⟩:ByteArray),(⟨#[122]⟩:ByteArray),(⟨#[119]⟩:ByteArray),(⟨#[97]⟩:ByteArray),(⟨#[]⟩:ByteArray),(⟨#[90]⟩:ByteArray)])[(pkV code d.2.1 d.2.2 (([(⟨#[122]⟩:ByteArray),(⟨#[99,115,99,48]⟩:ByteArray),(⟨#[119]⟩:ByteArray),(⟨#[122]⟩:ByteArray),(⟨#[119]⟩:ByteArray),(⟨#[97]⟩:ByteArray),(⟨#[]⟩:ByteArray),(⟨#[90]⟩:ByteArray)]).length:Int)).toNat]?).getD ByteArray.empty,(anD code d.1 (pkA (([(⟨#[122]⟩:ByteArray),(⟨#[99,115,99,48]⟩:ByteArray),(⟨#[119]⟩:ByteArray),(⟨#[122]⟩:ByteArray),(⟨#[119]⟩:ByteArray),(⟨#[97]⟩:ByteArray),(⟨#[]⟩:ByteArray),(⟨#[90]⟩:ByteArray)]).length:Int) d.2.1) (pkS code d.2.1 d.2.2 (([(⟨#[122]⟩:ByteArray),(⟨#[99,115,99,48]⟩:ByteArray),(⟨#[119]⟩:ByteArray),(⟨#[122]⟩:ByteArray),(⟨#[119]⟩:ByteArray),(⟨#[97]⟩:ByteArray),(⟨#[]⟩:ByteArray),(⟨#[90]⟩:ByteArray)]).length:Int))).1))) [] ?_ (QeP rfl (Rs.cell rfl rfl XQ rfl) (XE rfl) (XE rfl)) rfl trivial rfl rfl
 (have f:=‹_≤8∧_›; exact ⟨f.1,Qod _ (by decide+kernel) _⟩)
end Go.Proofs.YtgpdhgadmjfokaaGreat
namespace Go.Proofs.YtgpdhgadmjfokaaGreat
open Go.RowKit
set_option maxRecDepth 100000
set_option maxHeartbeats 4000000
def Qms (c:DSg)(p:PSt):ByteArray:=U1 c p.1++⟨#[if p.2 then 49 else 48]⟩
def CdI (c:DSg)(st:Ins):Prop:=st.2.1=st.1.map (Qms c)
section
variable {c:DSg}{s name:ByteArray}{st:Ins}{k:Int}{l:QZ}{p q:PSt}{a:DAr}
theorem QkS (h:CdI c st):CdI c (VD c st k l p):=by
 show cdP c st.1 st.2.1 p=(psP st.1 p).map (Qms c)
 have h:st.2.1=st.1.map (Qms c):=h
 unfold cdP psP
 split
 ·exact h
 ·rw[bB,h]; rfl
theorem Qnx (h:CdI c st):CdI c (WO c s k q st a):=by
 unfold WO
 split
 ·exact h
 ·exact QkS h
theorem QjD:∀(l:List DAr) (st:Ins),CdI c st→CdI c (l.foldl (WO c s k q) st)
 | [],_,h=>h
 | _ :: l,_,h=>QjD l _ (Qnx h)
theorem QqI (h:CdI c st):CdI c (XG c s st k):=by
 unfold XG
 split
 ·exact h
 ·refine QjD _ _ ?_
  unfold Qag
  split
  ·exact QkS h
  ·exact h
theorem QkT:∀(f i:Nat) (st:Ins),CdI c st→CdI c (Jq c s f i st)
 | 0,_,_,h=>h
 | f+1,i,st,h=>by
  rw[Jq]
  split
  ·exact QkT f _ _ (QqI h)
  ·exact h
theorem QnM:CdI c (QD c s):=QkT _ _ _ rfl
theorem Qed (b:SignsOk c s):∀(f i:Nat) (st:Ins),InsI c st→InsI c (Jq c s f i st)
 | 0,_,_,h=>h
 | f+1,i,st,h=>by
  rw[Jq]
  split
  ·exact Qed b f _ _ (V4 b h).1
  ·exact h
theorem QeA (b:SignsOk c s):InsI c (QD c s):=Qed b _ _ _ (K2 b.2.2.some_.1)
theorem Qhj (d:SgOk c)(h:0≤p.1∧p.1 < (c.2.1.length:Int)):∃y,c.2.1[p.1.toNat]? =some y∧U1 c p.1=y∧y.size=c.1.length:=by
 have b:p.1.toNat < c.2.1.length:=by omega
 refine ⟨c.2.1[p.1.toNat],aj b, ?_, ?_⟩
 ·unfold U1; rw[aj b]; rfl
 ·have:=(d.codes _ (cJ b)).2; omega
theorem Qoq (h:SignsOk c s){i:Nat}{z:ByteArray}{v:Int}(hv:((QD c s).1.map fun p=>p.1)[i]? =some v)(e:(QD c s).2.1[i]? =some z):
 (0≤v∧v < (c.2.1.length:Int))∧∃y,c.2.1[v.toNat]? =some y∧z.extract 0 c.1.length=y∧c.1.length≤z.size:=by
 have b:(QD c s).2.1=(QD c s).1.map (Qms c):=QnM
 rw[b,aW] at e
 rw[aW] at hv
 cases d:(QD c s).1[i]? with
 | none=>rw[d] at hv; cases hv
 | some p=>
  rw[d] at hv e
  cases hv; cases e
  have g:=(QeA h).rng p (ai d)
  obtain ⟨y,j,f,m⟩:=Qhj (p:=p) h.2.2 g
  refine ⟨g,y,j, ?_, ?_⟩
  ·unfold Qms
   rw[f]
   exact ByteArray.extract_append_eq_left m.symm
  ·unfold Qms; rw[f,aQ]; omega
theorem QpW (d:SignsOk c s)(g:a∈(QD c s).2.2)(h:a.2.1=(c.1.length:Int)):((QD c s).1.map fun p=>p.1)[a.1.toNat]? =((QD c s).1.map fun p=>p.1)[a.2.2.2.toNat]? :=by
 obtain ⟨i,p,q,l,r,m,n,o,rfl⟩:=(H9 d).arc a g
 rw[aW,aW]
 have f:(QD c s).1[((i:Nat):Int).toNat]? =some p:=by rw[cu]; exact m
 rw[show (((i:Nat):Int),l.1,l.2,ixP (QD c s).1 q).1=((i:Nat):Int) from rfl,f]
 show _=Option.map _ ((QD c s).1[(ixP (QD c s).1 q).toNat]?)
 rw[Qe0 n]
 rcases o with ⟨_,_,e⟩ | ⟨b,j,_,_,e,_⟩
 ·rw[e]; rfl
 ·have h:l.1=(c.1.length:Int):=h
  rw[e] at h
  have h:b.2.1=(c.1.length:Int):=h
  have:=QiW d.2.2 j
  omega
theorem Qqh [∀c,Decidable (SgOk c)][∀s,Decidable (ZF s)](h:(QK c name s).2=true):
 QK c name s=((Y4 c name (QD c s),(QD c s).1.map fun p=>p.1),true)∧SignsOk c s∧SgOk (Y4 c name (QD c s))∧((QD c s).1.map fun p=>p.1).length=(QD c s).2.1.length∧trV (Y4 c name (QD c s)) (c.1.length:Int) 4=trV c (-1) 4:=by
 unfold QK at h ⊢
 split at h
 ·rename_i g
  rw[if_pos g]
  have b:=g.1
  unfold V9 at b
  rw[aL,aL,aL] at b
  obtain ⟨d,e⟩:=Vo.1 b.1.1.1
  refine ⟨rfl,d,g.2, ?_,QqA d e g.2⟩
  rw[aE]; exact (QeA d).len.symm
 ·cases h
theorem QoT [∀c,Decidable (SgOk c)][∀s,Decidable (ZF s)](h:(QK c name s).2=true):
 SgOk (QK c name s).1.1∧(QK c name s).1.2.length=(QK c name s).1.1.2.1.length∧(QK c name s).1.1.1.length=c.1.length+1∧(QK c name s).1.1.1[c.1.length]? =some (name,3)∧
  (∀(i:Nat) (z:ByteArray) (v:Int),(QK c name s).1.2[i]? =some v→(QK c name s).1.1.2.1[i]? =some z→(0≤v∧v < (c.2.1.length:Int))∧∃y,c.2.1[v.toNat]? =some y∧z.extract 0 c.1.length=y∧c.1.length≤z.size)∧
  (∀a∈(QK c name s).1.1.2.2,a.2.1=(c.1.length:Int)→(QK c name s).1.2[a.1.toNat]? =(QK c name s).1.2[a.2.2.2.toNat]?)∧trV (QK c name s).1.1 (c.1.length:Int) 4=trV c (-1) 4:=by
 obtain ⟨e,b,m,n,o⟩:=Qqh h
 rw[e]
 refine ⟨m,n, ?_, ?_,fun i z v d f=>Qoq b d f,fun a g j=>QpW b g j,o⟩
 ·show (c.1++[(name,(3:Int))]).length=_
  rw[ah]; rfl
 ·show (c.1++[(name,(3:Int))])[c.1.length]? =_
  rw[be (aM _),dD]; rfl
end
end Go.Proofs.YtgpdhgadmjfokaaGreat
