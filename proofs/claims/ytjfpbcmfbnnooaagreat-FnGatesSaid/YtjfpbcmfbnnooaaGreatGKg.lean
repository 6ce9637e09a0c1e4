/- strings.Join, by the library's contract. -/
import Derived.Test.YtjfpbcmfbnnooaaGreatGWk
import Derived.Shelf.Lays
import Derived.Shelf.Strings.OnBuilder
import Derived.Test.YtjfpbcmfbnnooaaGreatGHs
import Derived.Test.YtjfpbcmfbnnooaaGreatGHc
import Derived.Test.YtjfpbcmfbnnooaaGreatGHo
import Derived.Test.YtjfpbcmfbnnooaaGreatGUa
import Derived.Test.YtjfpbcmfbnnooaaGreatGDf
import Derived.Test.YtjfpbcmfbnnooaaGreatGAu
import Derived.Test.YtjfpbcmfbnnooaaGreatGWv
import Derived.Test.YtjfpbcmfbnnooaaGreatGBc
import Derived.Test.YtjfpbcmfbnnooaaGreatGHw
import Derived.Test.YtjfpbcmfbnnooaaGreatGGa
import Derived.Test.YtjfpbcmfbnnooaaGreatGHg
import Derived.Test.YtjfpbcmfbnnooaaGreatGEa
set_option linter.unusedSimpArgs false
set_option linter.unusedVariables false
set_option linter.unusedSectionVars false
namespace Go.Proofs.YtjfpbcmfbnnooaaGreat
open Go.RowKit
def Qhr:Go.Shelf.Ren:=⟨fun|156=>102|165=>177|166=>178|169=>179|240=>251|241=>252|276=>296|277=>297|n=>n,fun|31=>25|9=>9|3=>3|4=>4|0=>0|20=>20|72=>218|76=>222|70=>216|37=>22|75=>221|127=>282|164=>321|5=>5|80=>224|n=>n,fun|n=>n⟩
theorem Qzb:Go.Proofs.Lays.n156 Tryz.prog Qhr:={
 mixed:=by kernel_rfl,
 f156:=Tryz.func102.trans (congrArg some (by kernel_rfl)),
 f165:=Tryz.func177.trans (congrArg some (by kernel_rfl)),
 f166:=Tryz.func178.trans (congrArg some (by kernel_rfl)),
 f169:=Tryz.func179.trans (congrArg some (by kernel_rfl)),
 f240:=Tryz.func251.trans (congrArg some (by kernel_rfl)),
 f241:=Tryz.func252.trans (congrArg some (by kernel_rfl)),
 f276:=Tryz.func296.trans (congrArg some (by kernel_rfl)),
 f277:=Tryz.func297.trans (congrArg some (by kernel_rfl)),
 t0:=Tryz.underlying0,
 a0:=Tryz.isAgg0,
 z0:=Tryz.sizeOf0,
 v0:=Tryz.zeroValue0,
 t3:=Tryz.underlying3,
 a3:=Tryz.isAgg3,
 z3:=Tryz.sizeOf3,
 v3:=Tryz.zeroValue3,
 t4:=Tryz.underlying4,
 a4:=Tryz.isAgg4,
 z4:=Tryz.sizeOf4,
 v4:=Tryz.zeroValue4,
 t9:=Tryz.underlying9,
 a9:=Tryz.isAgg9,
 z9:=Tryz.sizeOf9,
 v9:=Tryz.zeroValue9,
 t20:=Tryz.underlying20,
 a20:=Tryz.isAgg20,
 z20:=Tryz.sizeOf20,
 v20:=Tryz.zeroValue20,
 t31:=Tryz.underlying25,
 a31:=Tryz.isAgg25,
 z31:=Tryz.sizeOf25,
 v31:=Tryz.zeroValue25,
 t37:=Tryz.underlying22,
 a37:=Tryz.isAgg22,
 z37:=Tryz.sizeOf22,
 v37:=Tryz.zeroValue22,
 t70:=Tryz.underlying216,
 a70:=Tryz.isAgg216,
 z70:=Tryz.sizeOf216,
 v70:=Tryz.zeroValue216,
 t72:=Tryz.underlying218,
 a72:=Tryz.isAgg218,
 z72:=Tryz.sizeOf218,
 v72:=Tryz.zeroValue218,
 t75:=Tryz.underlying221,
 a75:=Tryz.isAgg221,
 z75:=Tryz.sizeOf221,
 v75:=Tryz.zeroValue221,
 t76:=Tryz.underlying222,
 a76:=Tryz.isAgg222,
 z76:=Tryz.sizeOf222,
 v76:=Tryz.zeroValue222,
 t127:=Tryz.underlying282,
 a127:=Tryz.isAgg282,
 z127:=Tryz.sizeOf282,
 v127:=Tryz.zeroValue282,
 t164:=Tryz.underlying321,
 a164:=Tryz.isAgg321,
 z164:=Tryz.sizeOf321,
 v164:=Tryz.zeroValue321}
theorem Qzc:Go.Proofs.Builder.Extra Tryz.prog Qhr:={
 sizeBuilder:=by kernel_rfl,
 liesBuilder:=by kernel_rfl,
 t5:=Tryz.underlying5,
 a5:=Tryz.isAgg5,
 z5:=Tryz.sizeOf5,
 v5:=Tryz.zeroValue5,
 infoByte:=by kernel_rfl,
 cellsByte:=by kernel_rfl,
 sizeByte:=by kernel_rfl,
 neB5:=by decide}
def jnB (l:List ByteArray)(sep:ByteArray):ByteArray:=⟨(Lib.join (l.map fun x=>x.data.toList) sep.data.toList).toArray⟩
section
variable {l:List ByteArray}{x y sep:ByteArray}
theorem QrK:fB (x++y)=fB x++fB y:=by simp[fB]
theorem QrL:fB (jnB l sep)=Lib.join (l.map fB) (fB sep):=rfl
theorem Qu6:jnB [x] sep=x:=Qmn (by rw[QrL];exact Lib.join_one _ _)
theorem Qse (h:l≠[]):jnB (l++[y]) sep=jnB l sep++sep++y:=Qmn (by
 rw[QrK,QrK,QrL,QrL]
 cases l with
 | nil=>exact absurd rfl h
 | cons x r=>
  rw[cX,bf,bf,bB,Lib.join_cons,Lib.join_cons]
  simp[Lib.joinTail])
theorem Qu8 (h:∀x∈l,x.size≤1000000):Lib.lens (l.map fB)≤1000000*l.length:=by
 induction l with
 | nil=>exact aO _
 | cons x l d=>
  have e:=d fun y c=>h y (aA _ c)
  have f:=h x (aB ..)
  have a:(fB x).length=x.size:=by simp[fB]
  have b:Lib.lens ((x::l).map fB)=(fB x).length+Lib.lens (l.map fB):=by simp[Lib.lens]
  rw[b,a,av];omega
theorem Qsd (h0:0<l.length)(c:l.length≤1000)(e:∀x∈l,x.size≤1000000)(d:sep.size≤1000):(Lib.join (l.map fB) (fB sep)).length≤1002000000:=by
 cases l with
 | nil=>cases h0
 | cons x r=>
  have a:=Qu8 e
  rw[bf,Lib.join_length,aH,← bf (f:=fB)]
  have b:(fB sep).length=sep.size:=by simp[fB]
  rw[b]
  rw[av] at a c
  have g:sep.size*r.length≤1000*1000:=cE d (by omega)
  omega
end
theorem QnE (l:List ByteArray)(sep:ByteArray)(h0:0<l.length)(G:l.length≤1000)(K:∀x∈l,x.size≤1000000)(H:sep.size≤1000):FC Tryz.prog 102 [(false,[.dat Qb l]),(false,[dS sep])] [] 0 (QK (lf (dS (jnB l sep)))):=fun p w W t E=>by
 obtain ⟨v,Q,rfl,⟨S,h,z⟩,V,R,rfl,⟨T,i,B⟩,rfl⟩:=E
 simp only[aI,and_true] at h i
 subst h
 subst i
 have D:Rep Qb w [v] l:=Rd.rep z
 obtain ⟨rfl,I⟩:=LVR.str B
 obtain ⟨A,c,r,O,U,P⟩:=D
 simp only[aI,and_true] at r
 subst r
 obtain ⟨b,o,rfl,L⟩:=P h0
 have a:∀(j:Nat) x,l[j]? =some x→w.cell? ⟨b,o+j,none⟩=some (.string x):=fun j x J=>by
  obtain ⟨u,M,N⟩:=L j x J
  obtain ⟨rfl,_⟩:u=[.string x]∧x.size≤maxLen:=M
  have:=N 0 _ rfl
  simpa [Ty.wd] using this
 have m:b<w.heap.size:=World.block_lt_of_cell? w _ (a 0 _ (ao h0))
 have k:=Qsd h0 G K H
 refine Calls.mono (Any.strings_Join Qzb Qzc b o c l sep w a m (by omega) O (bh k (by decide))) fun e s F=> ?_
 obtain ⟨rfl,d⟩:=F
 have d:Nw w s:=d
 exact ⟨_,_,[],p,rfl,⟨rfl,rfl⟩,Wj ZF p s fun g f=>ba (t.nl g f) d.size,⟨_,rfl,Qdw (x:=jnB l sep) (by
  have C:(jnB l sep).size=(Lib.join (l.map fB) (fB sep)).length:=by simp[jnB,ByteArray.size];rfl
  rw[C];unfold maxLen;omega)⟩,⟨d.grw,fun g f _=>Below.block d g f,fun g f=> .inl f,fun q n=>absurd n (ZF q)⟩,fun q n=>absurd n (by omega)⟩
end Go.Proofs.YtjfpbcmfbnnooaaGreat
namespace Go.Proofs.YtjfpbcmfbnnooaaGreat
open Go.RowKit
set_option maxRecDepth 100000
set_option maxHeartbeats 4000000
def Qzv (c:DSg)(cube:ByteArray)(q:Int):Bool:= !(QZ cube (Ya c q))
def Qzw (c:DSg)(R Q:List Int)(cube:ByteArray)(k:Nat):Bool:=QZ cube (cdA c k)&&(!(decide ((k:Int)∈R))&& !(decide ((k:Int)∈Q)))
def Qzx (c:DSg)(R:List Int)(cube:ByteArray)(a:DAr):Bool:= !(QZ cube (Ya c a.1))&&(QZ cube (Ya c a.2.2.2)&& !(decide (a.2.2.2∈R)))
def Qzy (c:DSg)(R Q:List Int)(cube:ByteArray):Int:=
 if R.any (Qzv c cube)=true then 1 else if (List.range c.2.1.length).any (Qzw c R Q cube)=true then 2 else if c.2.2.any (Qzx c R cube)=true then 3 else 0
section
variable {c:DSg}{R Q:List Int}{cube w w2:ByteArray}{q:Int}{i k m:Nat}{a:DAr}
end
abbrev BSt:=ByteArray×Bool
noncomputable def bcS (c:DSg) (R Q:List Int) (st:BSt) (cube:ByteArray):BSt:=if (!st.2||decide (YF [cube]<YF [st.1]))=true∧Qzy c R Q cube=0 then (cube,true) else st
noncomputable def bcK (c:DSg) (R Q:List Int) (k:Nat):BSt:=((Zx ((c.1.length:Int)).toNat).take k).foldl (bcS c R Q) (⟨#[]⟩,false)
noncomputable def bcV (c:DSg) (R Q:List Int):BSt:=(Zx ((c.1.length:Int)).toNat).foldl (bcS c R Q) (⟨#[]⟩,false)
section
variable {c:DSg}{R Q:List Int}{cu b:ByteArray}{f v:Bool}{k:Nat}{l:List ByteArray}
end
def egF (s:Int):List (Int×Bool):=[(s,true),(s,false)]
def egL (c:DSg):List (Int×Bool):=(QD c.1 c.1.length).flatMap egF
abbrev DRc:=Int×Bool×List ByteArray
noncomputable def rg1 (c:DSg) (e:Int×Bool):List (List Int):=regV c.2.2 (xS c.2.2 (e.1,e.2))
noncomputable def rcK (c:DSg) (e:Int×Bool) (i:Nat):List ByteArray:=((rg1 c e).take i).map fun r=>(bcV c r (qV c e.1 r)).1
noncomputable def rcF (c:DSg) (e:Int×Bool):DRc:=(e.1,e.2,(rg1 c e).map fun r=>(bcV c r (qV c e.1 r)).1)
noncomputable def rcB (c:DSg) (e:Int×Bool):Bool:=(rg1 c e).all fun r=>(bcV c r (qV c e.1 r)).2
noncomputable def mcL (c:DSg):List DRc:=(egL c).map (rcF c)
def QAH (c:DSg):Prop:=(SgOk c∧YG c=YY)∧(egL c).all (rcB c)=true
noncomputable instance [∀c,Decidable (SgOk c)] (c:DSg):Decidable (QAH c):=inferInstanceAs (Decidable (_∧_))
section
variable {c:DSg}{e:Int×Bool}{k i:Nat}{r:List Int}{cs:List ByteArray}{s:Int}
theorem QxA {α β:Type}{l:List α}{f:α→β}:((l.take k).map f).length≤l.length:=by rw[aH,ap];omega
theorem Qsq {α β:Type}{l:List α}{f:α→β}{x:α}{y:β}(a:l[k]? =some x)(d:y=f x):(l.take k).map f++[y]=(l.take (k+1)).map f:=by rw[QE a,bB,d];rfl
end
section
variable {c:DSg}{k m:Nat}{sg:Int}{b:Bool}{l:List Int}
end
noncomputable def regA (c:DSg) (sig:Int) (up:Bool) (i:Int):List Int:=((regV c.2.2 (xS c.2.2 (sig,up)))[i.toNat]?).getD []
def QBN (c:DSg)(sig:Int):Prop:=(0≤sig∧sig≤(c.1.length:Int) - 1)∧XN c sig=false∧SgOk c∧YG c=YY
def Qws (c:DSg)(sig:Int)(up:Bool)(i:Int):Prop:=((0≤sig∧sig≤(c.1.length:Int) - 1)∧XN c sig=false∧SgOk c∧YG c=YY)∧(0≤i∧i≤((regV c.2.2 (xS c.2.2 (sig,up))).length:Int) - 1)
noncomputable instance [∀c,Decidable (SgOk c)] (c:DSg) (sig:Int) (up:Bool) (i:Int):Decidable (Qws c sig up i):=inferInstanceAs (Decidable (_∧_))
def CkP (c:DSg)(sig:Int)(up:Bool)(i:Int)(cube:ByteArray):Prop:=Qws c sig up i∧Ze cube (c.1.length:Int)
noncomputable instance [∀c,Decidable (SgOk c)] (c:DSg) (sig:Int) (up:Bool) (i:Int) (cube:ByteArray):Decidable (CkP c sig up i cube):=inferInstanceAs (Decidable (_∧_))
noncomputable def ckV [∀c,Decidable (SgOk c)] (c:DSg) (sig:Int) (up:Bool) (i:Int) (cube:ByteArray):Int:=if CkP c sig up i cube then Qzy c (regA c sig up i) (qV c sig (regA c sig up i)) cube else 0
noncomputable def fdS (c:DSg) (sig:Int) (up:Bool) (i:Int):BSt:=bcV c (regA c sig up i) (qV c sig (regA c sig up i))
noncomputable def fdV [∀c,Decidable (SgOk c)] (c:DSg) (sig:Int) (up:Bool) (i:Int):BSt:=if Qws c sig up i then fdS c sig up i else (⟨#[]⟩,false)
section
variable [∀c,Decidable (SgOk c)]{c:DSg}{sig i:Int}{up:Bool}{cube:ByteArray}{reg Q:List Int}
end
def elE (m:DRc):Int×Bool:=(m.1,m.2.1)
def elB (c:DSg)(l:List DRc):Bool:=decide (l.map elE=egL c)
section
variable {c:DSg}{l:List DRc}{m:DRc}{k:Nat}{e:Int×Bool}{s:Int}
end
noncomputable def amK [∀c,Decidable (SgOk c)] (c:DSg) (m:DRc) (i:Nat):Bool:=decide (CkP c m.1 m.2.1 (i:Int) ((m.2.2[i]?).getD ByteArray.empty))&&decide (ckV c m.1 m.2.1 (i:Int) ((m.2.2[i]?).getD ByteArray.empty)=0)
noncomputable def am1 [∀c,Decidable (SgOk c)] (c:DSg) (m:DRc):Bool:=decide (m.2.2.length=(rg1 c (elE m)).length)&&(List.range m.2.2.length).all (amK c m)
def AmP [∀c,Decidable (SgOk c)](c:DSg)(l:List DRc):Prop:=(SgOk c∧YG c=YY)∧elB c l=true
instance [∀c,Decidable (SgOk c)] (c:DSg) (l:List DRc):Decidable (AmP c l):=inferInstanceAs (Decidable (_∧_))
noncomputable def amV [∀c,Decidable (SgOk c)] (c:DSg) (l:List DRc):Bool:=decide (AmP c l)&&l.all (am1 c)
section
variable [∀c,Decidable (SgOk c)]{c:DSg}{l:List DRc}{m:DRc}{k i:Nat}{cu:ByteArray}
end
abbrev UT:ByteArray:=⟨#[32]⟩
abbrev plT:ByteArray:=⟨#[32,43,32]⟩
def nmA (s:List Qy)(i:Nat):ByteArray:=((s[i]?).getD (ByteArray.empty,0)).1
def wd1 (s:List Qy)(cube:ByteArray)(i:Nat):List ByteArray:=if bAt cube (i:Int)=49 then [nmA s i] else if bAt cube (i:Int)=48 then [nmA s i++⟨#[39]⟩] else []
def wdL (s:List Qy)(cube:ByteArray)(k:Nat):List ByteArray:=(List.range k).flatMap (wd1 s cube)
def jnO (l:List ByteArray)(sep:ByteArray):ByteArray:=if l=[] then ⟨#[]⟩ else jnB l sep
def orT (t d:ByteArray):ByteArray:=if t=⟨#[]⟩ then d else t
def prT (s:List Qy)(cube:ByteArray):ByteArray:=orT (jnO (wdL s cube s.length) UT) ⟨#[49]⟩
def cvO (s:List Qy)(l:List ByteArray):ByteArray:=jnO (l.map (prT s)) plT
def cvT (s:List Qy)(l:List ByteArray):ByteArray:=orT (cvO s l) ⟨#[48]⟩
def VI (s:List Qy):Prop:=∀g∈s,1≤g.1.size∧g.1.size≤6
section
variable {s:List Qy}{cube w sep t:ByteArray}{l L:List ByteArray}{k i:Nat}{g:Qy}{u:UInt8}{B:Nat}
theorem ba0 {x:ByteArray}(h:x.size=0):x=⟨#[]⟩:=ByteArray.size_eq_zero_iff.1 h
theorem Qza (h0:0<l.length)(m:∀x∈l,x.size≤B):(jnB l sep).size≤(B+sep.size)*l.length:=by
 have d:(jnB l sep).size=(Lib.join (l.map fB) (fB sep)).length:=by simp[jnB,ByteArray.size];rfl
 have e:∀l:List ByteArray,(∀x∈l,x.size≤B)→Lib.lens (l.map fB)≤B*l.length:=fun l=>by
  induction l with
  | nil=>intro _;exact aL _
  | cons x l n=>
   intro h
   have o:=n fun y j=>h y (aA _ j)
   have p:=h x (aB ..)
   have b:(fB x).length=x.size:=by simp[fB]
   have c:Lib.lens ((x::l).map fB)=(fB x).length+Lib.lens (l.map fB):=by simp[Lib.lens]
   rw[c,b,av,Nat.mul_add];omega
 have a:=e l m
 rw[d]
 cases l with
 | nil=>cases h0
 | cons x r=>
  rw[bf,Lib.join_length,aH,← bf (f:=fB),show (fB sep).length=sep.size by simp[fB],bK]
  rw[av] at a ⊢
  have:sep.size*r.length≤sep.size*(r.length+1):=Nat.mul_le_mul_left _ (Nat.le_succ _)
  omega
theorem Qy9 (h0:0<l.length)(c:∀x∈l,1≤x.size):1≤(jnB l sep).size:=by
 have b:(jnB l sep).size=(Lib.join (l.map fB) (fB sep)).length:=by simp[jnB,ByteArray.size];rfl
 cases l with
 | nil=>cases h0
 | cons x r=>
  have d:=c x (aB ..)
  have a:(fB x).length=x.size:=by simp[fB]
  rw[b,bf,Lib.join_cons,ah,a];omega
theorem Qy8:jnO [] sep=⟨#[]⟩:=rfl
theorem QfH (h:l≠[]):jnO l sep=jnB l sep:=if_neg h
theorem Qsh (a:∀x∈l,1≤x.size):jnO l sep=⟨#[]⟩↔l=[]:=by
 constructor
 ·intro h
  cases l with
  | nil=>rfl
  | cons x r=>
   rw[QfH (by simp)] at h
   have:=Qy9 (sep:=sep) (l:=x::r) (by simp) a
   rw[h] at this
   exact absurd this (by decide)
 ·rintro rfl;rfl
theorem Qsf (h:l≠[]):jnO l sep++sep++w=jnO (l++[w]) sep:=by rw[QfH h,QfH (by simp),Qse h]
theorem Qsg (h:l=[]):jnO l sep++w=jnO (l++[w]) sep:=by
 subst h
 rw[Qy8,QfH (by simp),db,Qu6]
 exact ByteArray.empty_append
theorem Qsi (a:∀x∈l,x.size≤B):(jnO l sep).size≤(B+sep.size)*l.length:=by
 by_cases h:l=[]
 ·subst h;exact aL _
 ·rw[QfH h];exact Qza (List.length_pos_iff.2 h) a
theorem Qn6 (a:s[k]? =some g):nmA s k=g.1:=by unfold nmA;rw[a];rfl
theorem QoL:wdL s cube (k+1)=wdL s cube k++wd1 s cube k:=by unfold wdL;rw[bO,cB];simp
theorem QtD (b:s[k]? =some g)(a:cube[((k:Int)).toNat]? =some u)(h:u=49):wdL s cube k++[g.1]=wdL s cube (k+1):=by rw[QoL,wd1,QY a,if_pos h,Qn6 b]
theorem QtE (c:s[k]? =some g)(b:cube[((k:Int)).toNat]? =some u)(a:¬u=49)(h:u=48):wdL s cube k++[g.1++⟨#[39]⟩]=wdL s cube (k+1):=by rw[QoL,wd1,QY b,if_neg a,if_pos h,Qn6 c]
theorem QvR (b:cube[((k:Int)).toNat]? =some u)(a:¬u=49)(h:¬u=48):wdL s cube k=wdL s cube (k+1):=by rw[QoL,wd1,QY b,if_neg a,if_neg h,br]
theorem QAg (a:cube[((k:Int)).toNat]? =some u)(h:u=45):wdL s cube k=wdL s cube (k+1):=QvR a (by rw[h];decide) (by rw[h];decide)
theorem QvQ:(wd1 s cube k).length≤1:=by
 unfold wd1
 split
 ·simp
 ·split <;> simp
theorem QoK:(wdL s cube k).length≤k:=by
 induction k with
 | zero=>exact aO _
 | succ k a=>rw[QoL,ah];have:=QvQ (s:=s) (cube:=cube) (k:=k);omega
theorem Qi1 (d:VI s)(f:k≤s.length):∀x∈wdL s cube k,1≤x.size∧x.size≤7:=fun x c=>by
 unfold wdL at c
 obtain ⟨i,b,h⟩:=cp.1 c
 have b:=bH.1 b
 have a:s[i]? =some s[i]:=ao (by omega)
 have e:=d _ (ae a)
 unfold wd1 at h
 split at h
 ·rw[aF,Qn6 a] at h;rw[h];omega
 ·split at h
  ·rw[aF,Qn6 a] at h
   rw[h,ax]
   have:(⟨#[39]⟩:ByteArray).size=1:=rfl
   omega
  ·cases h
theorem QjH (a:Ze cube (s.length:Int))(b:cube[((k:Int)).toNat]? =some u)(h:¬u=45):u=48∨u=49:=by
 rcases a.1 u (ae (KZ b)) with g|g|g
 ·exact .inl g
 ·exact .inr g
 ·exact absurd g h
theorem Qoj (h:((wdL s cube s.length).length:Int)=0):(⟨#[49]⟩:ByteArray)=prT s cube:=by
 have:wdL s cube s.length=[]:=bi (by omega)
 unfold prT;rw[this];rfl
theorem Qok (b:VI s)(h:¬((wdL s cube s.length).length:Int)=0):jnB (wdL s cube s.length) UT=prT s cube:=by
 have a:wdL s cube s.length≠[]:=fun g=>h (by rw[g];rfl)
 unfold prT orT
 rw[if_neg fun g=>a ((Qsh fun x c=>(Qi1 b (aO _) x c).1).1 g),QfH a]
theorem QzR (b:VI s)(a:k≤s.length)(h:¬jnO (wdL s cube k) UT=⟨#[]⟩):wdL s cube k≠[]:=fun g=>h (by rw[g];rfl)
theorem QzS (b:VI s)(a:k≤s.length)(h:jnO (wdL s cube k) UT=⟨#[]⟩):wdL s cube k=[]:=(Qsh fun x c=>(Qi1 b a x c).1).1 h
theorem QzN (a:VI s)(d:k<s.length)(h:¬t=⟨#[]⟩)(e:t=jnO (wdL s cube k) UT)(c:s[k]? =some g)(b:cube[((k:Int)).toNat]? =some u)(hv:u=49):t++UT++g.1=jnO (wdL s cube (k+1)) UT:=by
 rw[e,Qsf (QzR a (by omega) (e▸h)),QtD c b hv]
theorem QzO (a:VI s)(d:k<s.length)(h:¬t=⟨#[]⟩)(e:t=jnO (wdL s cube k) UT)(c:s[k]? =some g)(b:cube[((k:Int)).toNat]? =some u)(hv:u=48):t++UT++g.1++⟨#[39]⟩=jnO (wdL s cube (k+1)) UT:=by
 rw[e,ByteArray.append_assoc,Qsf (QzR a (by omega) (e▸h)),QtE c b (by rw[hv];decide) hv]
theorem QzP (a:VI s)(d:k<s.length)(h:t=⟨#[]⟩)(e:t=jnO (wdL s cube k) UT)(c:s[k]? =some g)(b:cube[((k:Int)).toNat]? =some u)(hv:u=49):t++g.1=jnO (wdL s cube (k+1)) UT:=by
 rw[e,Qsg (QzS a (by omega) (e▸h)),QtD c b hv]
theorem QzQ (a:VI s)(d:k<s.length)(h:t=⟨#[]⟩)(e:t=jnO (wdL s cube k) UT)(c:s[k]? =some g)(b:cube[((k:Int)).toNat]? =some u)(hv:u=48):t++g.1++⟨#[39]⟩=jnO (wdL s cube (k+1)) UT:=by
 rw[e,ByteArray.append_assoc,Qsg (QzS a (by omega) (e▸h)),QtE c b (by rw[hv];decide) hv]
theorem QBn (e:t=jnO (wdL s cube k) UT)(a:cube[((k:Int)).toNat]? =some u)(hv:u=45):t=jnO (wdL s cube (k+1)) UT:=by rw[e,QAg a hv]
theorem QsQ (c:VI s)(b:k≤s.length):(jnO (wdL s cube k) UT).size≤8*k:=by
 have e:=Qsi (sep:=UT) fun x d=>(Qi1 (cube:=cube) c b x d).2
 have a:=QoK (s:=s) (cube:=cube) (k:=k)
 have f:(7+UT.size)*(wdL s cube k).length≤8*k:=cE (aO 8) a
 omega
theorem Qvk (h:t=⟨#[]⟩):w=orT t w:=(if_pos h).symm
theorem Qvl (h:¬t=⟨#[]⟩):t=orT t w:=(if_neg h).symm
theorem Qol (a:VI s)(c:s.length≤8):1≤(prT s cube).size∧(prT s cube).size≤64:=by
 have b:=QsQ (cube:=cube) a (aO s.length)
 unfold prT orT
 split
 ·exact ⟨aO 1,by have:(⟨#[49]⟩:ByteArray).size=1:=rfl;omega⟩
 ·rename_i g
  refine ⟨?_,by omega⟩
  by_cases e:(jnO (wdL s cube s.length) UT).size=0
  ·exact absurd (ba0 e) g
  ·omega
theorem Qrv (b:VI s)(a:s.length≤8):∀x∈l.map (prT s),1≤x.size∧x.size≤64:=fun x d=>by
 obtain ⟨c,_,rfl⟩:=bd.1 d
 exact Qol b a
theorem Qrw (c:VI s)(b:s.length≤8):(cvO s l).size≤67*l.length:=by
 have a:=Qsi (sep:=plT) fun x d=>(Qrv (l:=l) c b x d).2
 rw[aH] at a
 exact a
theorem QyO (a:l[k]? =some w)(b:¬0<(k:Int))(e:t=cvO s (l.take k)):t++prT s w=cvO s (l.take (k+1)):=by
 obtain rfl:k=0:=by omega
 rw[e]
 unfold cvO
 rw[QE a,bB]
 exact Qsg rfl
theorem QyP (a:l[k]? =some w)(c:0<(k:Int))(e:t=cvO s (l.take k)):t++plT++prT s w=cvO s (l.take (k+1)):=by
 have b:=(ai.1 a).1
 rw[e]
 unfold cvO
 rw[QE a,bB]
 exact Qsf fun g=>by
  have:=congrArg List.length g
  rw[aH,ap,aC] at this
  omega
theorem QuA (h:((l.map (prT s)).length:Int)=0):(⟨#[48]⟩:ByteArray)=cvT s l:=by
 have:l.map (prT s)=[]:=bi (by omega)
 unfold cvT cvO;rw[this];rfl
theorem QuB (c:VI s)(b:s.length≤8)(h:¬((l.map (prT s)).length:Int)=0):jnB (l.map (prT s)) plT=cvT s l:=by
 have a:l.map (prT s)≠[]:=fun g=>h (by rw[g];rfl)
 unfold cvT orT cvO
 rw[if_neg fun g=>a ((Qsh fun x d=>(Qrv c b x d).1).1 g),QfH a]
theorem QyM (a:l.length≤k)(h:(((l.take k).map (prT s)).length:Int)=0):(⟨#[48]⟩:ByteArray)=cvT s l:=by
 rw[aP a] at h;exact QuA h
theorem QyN (c:VI s)(a:s.length≤8)(b:l.length≤k)(h:¬(((l.take k).map (prT s)).length:Int)=0):jnB ((l.take k).map (prT s)) plT=cvT s l:=by
 rw[aP b] at h ⊢;exact QuB c a h
theorem Ho (b:VI s)(a:s.length≤8)(d:l.length≤60):1≤(cvT s l).size∧(cvT s l).size≤4020:=by
 have c:=Qrw (l:=l) b a
 unfold cvT orT
 split
 ·exact ⟨aO 1,by have:(⟨#[48]⟩:ByteArray).size=1:=rfl;omega⟩
 ·rename_i g
  refine ⟨?_,by omega⟩
  by_cases e:(cvO s l).size=0
  ·exact absurd (ba0 e) g
  ·omega
theorem QzA (b:VI s)(a:s.length≤8):∀x∈(l.take k).map (prT s),x.size≤1000000:=fun x c=>by
 have:=(Qrv b a x c).2
 omega
end
theorem Qcg (s:Qgr)(cube:ByteArray)(n:VI s)(I:s.length≤8)(A:Ze cube (s.length:Int)):FC Tryz.prog 156 [(false,[.dat Ql s]),(false,[dS cube])] [] 0 (QK (lf (dS (prT s cube)))):=by
 have J:(cube.size:Int)=(s.length:Int):=A.2.1
 refine Qj Tryz.func156 rfl rfl Tryz.ntmps156 fun G r F v H z y=> ?_
 refine w4 ?_
 refine lc (dBs 0 (e:= .str) Z3) ?_
 refine w5 ?_
 refine alL 9 fun _=> ?_
 refine w4 ?_
 refine lp0 s.length (fun k=>⟨[(1,lf (dS cube)),(4,lf (dS (⟨#[]⟩:ByteArray))),(5,lR 1),(9,lf (.dat Ql s)),(10,lI (s.length:Int)),(11,lI (k:Int))],[ar 1 9 .str (wdL s cube k)]⟩) ?_ fun k _=> ?_
 exact wp [(1,0)] ⟨(Qm (rfl)),trivial⟩
 have D:=QoK (s:=s) (cube:=cube) (k:=k)
 refine w4 ?_
 cases f:(decide ((k:Int)<(s.length:Int)))
 have h:=aa f
 refine w9 ?_
 refine cd_ (fun _ _=> ?_) fun _ _=> ?_
 refine w3 ?_
 refine lc (dB_ (QnE (wdL s cube k) (⟨#[32]⟩:ByteArray) (by omega) (by omega) (fun x E=>by have:=(Qi1 n (by omega) x E).2;omega) (by decide)) QeG) ?_
 refine w2 ?_
 refine Qe<|fqS r ?_
 (obtain rfl:k=s.length:=by omega);first|exact Qoj ‹_› | exact Qok n ‹_›
 refine w3 ?_
 refine Qe<|fqS r ?_
 (obtain rfl:k=s.length:=by omega);first|exact Qoj ‹_› | exact Qok n ‹_›
 have h:=ab f
 refine w6 ?_
 obtain ⟨g,p⟩:=gx s k
 have d:=p
 have C:=n _ (ae d)
 refine w2 ?_
 refine lc (xal 2 QI WO) ?_
 refine w6 ?_
 obtain ⟨q,o⟩:=gs cube (((k:Int)).toNat)
 have a:=o
 refine w4 ?_
 refine lc (Q8 (Qa rfl) (QJ 49 rfl) rfl) ?_
 refine w2 ?_
 cases j:(decide (q=49))
 have m:=aa j
 refine w2 ?_
 refine lc (Q8 (Qa rfl) (QJ 48 rfl) rfl) ?_
 refine w2 ?_
 cases b:(decide (q=48))
 have c:=aa b
 refine w6 ?_
 refine Qd ?_
 refine l0_ ?_
 exact wp [] ⟨(Qm ((by first|exact QtD d a ‹_› | exact QtE d a ‹_› ‹_› | exact QvR a ‹_› ‹_›))),trivial⟩
 have c:=ab b
 refine w5 ?_
 refine lc (Qw (Qa rfl) (Evl.str rfl) rfl (by first|omega|(simp only[ax,Q4];omega))) ?_
 refine lc (dBs 3 (e:= .str) Z3) ?_
 refine lc (dA 4 YW) ?_
 refine w_ ?_
 refine Qd ?_
 refine w4 ?_
 refine Qd ?_
 refine l0_ ?_
 exact wp [(1,4)] ⟨(Qm ((by first|exact QtD d a ‹_› | exact QtE d a ‹_› ‹_› | exact QvR a ‹_› ‹_›))),trivial⟩
 have m:=ab j
 refine w5 ?_
 refine lc (dBs 5 (e:= .str) Z3) ?_
 refine lc (dA 6 YW) ?_
 refine w_ ?_
 refine Qd ?_
 refine w4 ?_
 refine Qd ?_
 refine l0_ ?_
 exact wp [(1,6)] ⟨(Qm ((by first|exact QtD d a ‹_› | exact QtE d a ‹_› ‹_› | exact QvR a ‹_› ‹_›))),trivial⟩
theorem V6 (s:Qgr)(cube:ByteArray)(j:VI s)(R:s.length≤8)(A:Ze cube (s.length:Int)):FC Tryz.prog 157 [(false,[.dat Ql s]),(false,[dS cube])] [] 0 (QK (lf (dS (prT s cube)))):=by
 have S:(cube.size:Int)=(s.length:Int):=A.2.1
 refine Qj Tryz.func157 rfl rfl Tryz.ntmps157 fun P E O H Q J I=> ?_
 refine w11 ?_
 refine Qu (fun F G=>∃(k:Nat) (b:ByteArray),k≤cube.size∧F=cube.size - k∧(b=jnO (wdL s cube k) UT)∧G=⟨[(0,lf (.dat Ql s)),(1,lf (dS cube)),(4,lf (dS (⟨#[]⟩:ByteArray))),(5,lf (dS b)),(6,lI (k:Int))],[]⟩) ⟨0,(⟨#[]⟩:ByteArray),aL _,rfl,rfl,rfl⟩ ?_ ?_
 exact wo []
 rintro F G ⟨k,b,K,M,a,rfl⟩
 have N:b.size≤8*k:=by rw[a];exact QsQ j (by omega)
 refine w4 ?_
 refine alS 8 fun _=> ?_
 refine lc (Q5 (Qa rfl) rfl Zo) ?_
 refine w2 ?_
 cases n:(decide ((k:Int)<(cube.size:Int)))
 have o:=aa n
 refine w8 ?_
 refine cd_ (fun _ _=> ?_) fun _ _=> ?_
 refine w5 ?_
 refine Qe<|fqS E ?_
 (obtain rfl:k=s.length:=by omega);rw[prT,← a];first|exact Qvk ‹_› | exact Qvl ‹_›
 refine w3 ?_
 refine Qe<|fqS E ?_
 (obtain rfl:k=s.length:=by omega);rw[prT,← a];first|exact Qvk ‹_› | exact Qvl ‹_›
 have o:=ab n
 refine w8 ?_
 obtain ⟨z,C⟩:=gs cube (((k:Int)).toNat)
 have m:=C
 refine w_ ?_
 refine lc (Q8 (Qa rfl) (QJ 45 rfl) rfl) ?_
 refine w_ ?_
 cases p:(decide (z=45))
 have q:=aa p
 refine w7 ?_
 cases r:(!decide (b=(⟨#[]⟩:ByteArray)))
 have v:(b=(⟨#[]⟩:ByteArray)):=Qz r
 refine w6 ?_
 obtain ⟨g,x⟩:=gx s k
 have h:=x
 have D:=j _ (ae h)
 refine w3 ?_
 refine lc (Qw (Qa rfl) (Qa rfl) rfl (by first|omega|(simp only[ax,Q4];omega))) ?_
 refine w6 ?_
 refine lc (Q8 (Qa rfl) (QJ 48 rfl) rfl) ?_
 refine w_ ?_
 cases c:(decide (z=48))
 have e:=aa c
 refine w7 ?_
 refine Qd<|QV ⟨k+1,(b++g.1),by omega,rfl,(by exact QzP j (by omega) ‹_› a h m ((QjH A m ‹_›).resolve_left ‹_›)),rfl⟩ (by omega) ?_
 exact wo []
 have e:=ab c
 refine w3 ?_
 refine lc (Qw (Qa rfl) (Evl.str rfl) rfl (by first|omega|(simp only[ax,Q4];omega))) ?_
 refine w_ ?_
 refine Qd ?_
 refine w5 ?_
 refine Qd<|QV ⟨k+1,((b++g.1)++(⟨#[39]⟩:ByteArray)),by omega,rfl,(by exact QzQ j (by omega) ‹_› a h m ‹_›),rfl⟩ (by omega) ?_
 exact wo []
 have v:¬(b=(⟨#[]⟩:ByteArray)):=QG r
 refine w3 ?_
 refine lc (Qw (Qa rfl) (Evl.str rfl) rfl (by first|omega|(simp only[ax,Q4];omega))) ?_
 refine w6 ?_
 obtain ⟨g,y⟩:=gx s k
 have h:=y
 have D:=j _ (ae h)
 refine w3 ?_
 refine lc (Qw (Qa rfl) (Qa rfl) rfl (by first|omega|(simp only[ax,Q4];omega))) ?_
 refine w6 ?_
 refine lc (Q8 (Qa rfl) (QJ 48 rfl) rfl) ?_
 refine w_ ?_
 cases d:(decide (z=48))
 have f:=aa d
 refine w7 ?_
 refine Qd<|QV ⟨k+1,((b++(⟨#[32]⟩:ByteArray))++g.1),by omega,rfl,(by exact QzN j (by omega) ‹_› a h m ((QjH A m ‹_›).resolve_left ‹_›)),rfl⟩ (by omega) ?_
 exact wo []
 have f:=ab d
 refine w3 ?_
 refine lc (Qw (Qa rfl) (Evl.str rfl) rfl (by first|omega|(simp only[ax,Q4];omega))) ?_
 refine w_ ?_
 refine Qd ?_
 refine w5 ?_
 refine Qd<|QV ⟨k+1,(((b++(⟨#[32]⟩:ByteArray))++g.1)++(⟨#[39]⟩:ByteArray)),by omega,rfl,(by exact QzO j (by omega) ‹_› a h m ‹_›),rfl⟩ (by omega) ?_
 exact wo []
 have q:=ab p
 refine w7 ?_
 refine Qd<|QV ⟨k+1,b,by omega,rfl,(by exact QBn a m ‹_›),rfl⟩ (by omega) ?_
 exact wo []
theorem Uw (s:Qgr)(l:List ByteArray)(n:VI s)(h:s.length≤8)(D:l.length≤60)(m:∀c∈l,Ze c (s.length:Int)):FC Tryz.prog 79 [(false,[.dat Ql s]),(false,[.dat Qb l])] [] 0 (QK (lf (dS (cvT s l)))):=by
 refine Qj Tryz.func79 rfl rfl Tryz.ntmps79 fun A p z q C x v=> ?_
 refine w4 ?_
 refine lc (dBs 0 (e:= .str) Z3) ?_
 refine w5 ?_
 refine alL 9 fun _=> ?_
 refine w4 ?_
 refine lp0 l.length (fun k=>⟨[(0,lf (.dat Ql s)),(4,lf (dS (⟨#[]⟩:ByteArray))),(5,lR 1),(9,lf (.dat Qb l)),(10,lI (l.length:Int)),(11,lI (k:Int))],[ar 1 9 .str ((l.take k).map (prT s))]⟩) ?_ fun k _=> ?_
 exact wp [(1,0)] ⟨(Qm (rfl)),trivial⟩
 have y:=QxA (k:=k) (l:=l) (f:=prT s)
 refine w4 ?_
 cases a:(decide ((k:Int)<(l.length:Int)))
 have b:=aa a
 refine w9 ?_
 refine cd_ (fun _ _=> ?_) fun _ _=> ?_
 refine w3 ?_
 refine lc (dB_ (QnE ((l.take k).map (prT s)) (⟨#[32,43,32]⟩:ByteArray) (by omega) (by omega) (QzA n h) (by decide)) QeG) ?_
 refine w2 ?_
 refine Qe<|fqS p ?_
 exact QyN (k:=k) n h (by omega) ‹_›
 refine w3 ?_
 refine Qe<|fqS p ?_
 exact QyM (k:=k) (by omega) ‹_›
 have b:=ab a
 refine w5 ?_
 obtain ⟨r,o⟩:=gx l k
 have d:=o
 have j:=m _ (ae d)
 refine w8 ?_
 refine lc (dK (Qcg s r n h j) Qlq) ?_
 refine lc (dBs 2 (e:= .str) Z3) ?_
 refine lc (dA 3 YW) ?_
 refine w_ ?_
 refine Qd ?_
 refine w4 ?_
 refine Qd ?_
 refine l0_ ?_
 exact wp [(1,3)] ⟨(Qm ((Qsq d rfl))),trivial⟩
theorem K9 (s:Qgr)(l:List ByteArray)(q:VI s)(p:s.length≤8)(N:l.length≤60)(v:∀c∈l,Ze c (s.length:Int)):FC Tryz.prog 80 [(false,[.dat Ql s]),(false,[.dat Qb l])] [] 0 (QK (lf (dS (cvT s l)))):=by
 have d:(⟨#[32,43,32]⟩:ByteArray).size=3:=rfl
 refine Qj Tryz.func80 rfl rfl Tryz.ntmps80 fun K y J C M E D=> ?_
 refine w9 ?_
 refine alL 8 fun _=> ?_
 refine w4 ?_
 refine Qu (fun z A=>∃(k:Nat) (e:ByteArray),k≤l.length∧z=l.length - k∧(e=cvO s (l.take k))∧A=⟨[(0,lf (.dat Ql s)),(4,lf (dS (⟨#[]⟩:ByteArray))),(5,lf (dS e)),(8,lf (.dat Qb l)),(9,lI (l.length:Int)),(10,lI (k:Int))],[]⟩) ⟨0,(⟨#[]⟩:ByteArray),aL _,rfl,rfl,rfl⟩ ?_ ?_
 exact wo []
 rintro z A ⟨k,e,F,G,a,rfl⟩
 have H:e.size≤67*k:=by rw[a];exact bh (Qrw q p) (Nat.mul_le_mul_left _ (by rw[ap];omega))
 refine w4 ?_
 cases h:(decide ((k:Int)<(l.length:Int)))
 have j:=aa h
 refine w8 ?_
 refine cd_ (fun _ _=> ?_) fun _ _=> ?_
 refine w5 ?_
 refine Qe<|fqS y ?_
 (have r:l.take k=l:=aP (by omega));rw[r] at a;rw[cvT,← a];first|exact Qvk ‹_› | exact Qvl ‹_›
 refine w3 ?_
 refine Qe<|fqS y ?_
 (have r:l.take k=l:=aP (by omega));rw[r] at a;rw[cvT,← a];first|exact Qvk ‹_› | exact Qvl ‹_›
 have j:=ab h
 refine w6 ?_
 obtain ⟨f,x⟩:=gx l k
 have b:=x
 have o:=v _ (ae b)
 have I:=Qol (cube:=f) q p
 refine w10 ?_
 cases m:(decide (0<(k:Int)))
 have n:=aa m
 refine w6 ?_
 refine lc (dK (V6 s f q p o) QeQ) ?_
 refine lc (Qw (Qa rfl) (Qa rfl) rfl (by first|omega|(simp only[ax,Q4,d];omega))) ?_
 refine w_ ?_
 refine Qd ?_
 refine w4 ?_
 refine Qd<|QV ⟨k+1,(e++(prT s f)),by omega,rfl,(by exact QyO b ‹_› a),rfl⟩ (by omega) ?_
 exact wo []
 have n:=ab m
 refine w3 ?_
 refine lc (Qw (Qa rfl) (Evl.str rfl) rfl (by first|omega|(simp only[ax,Q4,d];omega))) ?_
 refine w6 ?_
 refine lc (dK (V6 s f q p o) QeQ) ?_
 refine lc (Qw (Qa rfl) (Qa rfl) rfl (by first|omega|(simp only[ax,Q4,d];omega))) ?_
 refine w_ ?_
 refine Qd ?_
 refine w4 ?_
 refine Qd<|QV ⟨k+1,((e++(⟨#[32,43,32]⟩:ByteArray))++(prT s f)),by omega,rfl,(by exact QyP b ‹_› a),rfl⟩ (by omega) ?_
 exact wo []
abbrev eqT:ByteArray:=⟨#[32,61,32]⟩
abbrev nlT:ByteArray:=⟨#[10]⟩
def rgT (c:DSg)(m:DRc):ByteArray:=edT c.1 (m.1,m.2.1)++eqT++cvT c.1 m.2.2++nlT
def fmK (c:DSg)(l:List DRc)(k:Nat):ByteArray:=((l.take k).map (rgT c)).foldl (fun a b=>a++b) ⟨#[]⟩
def FmP [∀c,Decidable (SgOk c)](c:DSg)(l:List DRc):Prop:=AmP c l∧∀m∈l,Z1 (c.1.length:Int) m.2.2
instance [∀c,Decidable (SgOk c)] (c:DSg) (l:List DRc):Decidable (FmP c l):=inferInstanceAs (Decidable (_∧_))
def QB0 [∀c,Decidable (SgOk c)](c:DSg)(l:List DRc):ByteArray:=if FmP c l then fmK c l l.length else ⟨#[]⟩
section
variable {c:DSg}{l:List DRc}{m:DRc}{k:Nat}{s:List Qy}{e:Int×Bool}{t:ByteArray}
section
variable [∀c,Decidable (SgOk c)]
end
def ltQ (l:List ByteArray):Prop:=l=[]∨Z1 (n0 l:Int) l
end
section
variable {l:List ByteArray}{c:ByteArray}
instance (l:List ByteArray):Decidable (ltQ l):=inferInstanceAs (Decidable (_∨_))
def ltV (l:List ByteArray):Int:=if ltQ l then YF l else 0
end
abbrev DGt:=Int×Int×List ByteArray×List ByteArray
abbrev DCk:=List Qy×List DGt
def Y1 (n:Int)(g:DGt):Prop:=((1≤g.2.1∧g.2.1≤2)∧Z1 n g.2.2.1)∧Z1 n g.2.2.2∧(g.2.1=1→g.2.2.2.length=0)
instance (n:Int) (g:DGt):Decidable (Y1 n g):=inferInstanceAs (Decidable (_∧_))
def ZU (x:DCk):Prop:=(Yj x.1∧x.2.map (fun g=>g.1)=QD x.1 x.1.length)∧∀g∈x.2,Y1 (x.1.length:Int) g
def nxG (g:DGt)(code:ByteArray):Bool:=if g.2.1=2∧bAt code g.1=49 then !(inC g.2.2.2 code) else inC g.2.2.1 code
def exG (g:DGt)(code:ByteArray):Bool:= !(nxG g code==decide (bAt code g.1=49))
def imR (c:DSg)(x:DCk)(k:Nat):Bool:=x.2.all fun g=>exG g (cdA c k)==QW c (k:Int) g.1
def imB (c:DSg)(x:DCk):Bool:=(List.range c.2.1.length).all fun k=>imR c x k
section
variable [∀c,Decidable (SgOk c)]
def YX (c:DSg)(w:Bool)(sig:Int):DGt:=
 if w=true then (sig,2,mcV (c.1.length:Int) (Qp c sig upT).1 (Qp c sig upT).2,mcV (c.1.length:Int) (Qp c sig QO).1 (Qp c sig QO).2) else (sig,1,nfV c sig,[])
def Zs (c:DSg)(w:Bool)(sig:Int):Bool:=
 if w=true then (decide (Qv c sig upT)&&decide (Qv c sig QO))&&(mcB (c.1.length:Int) (Qp c sig upT).1 (Qp c sig upT).2&&mcB (c.1.length:Int) (Qp c sig QO).1 (Qp c sig QO).2) else nfB c sig
def Q6 (c:DSg)(w:Bool):Prop:=(SgOk c∧YG c=YY)∧((QD c.1 c.1.length).all fun s=>Zs c w s)=true
instance (c:DSg) (w:Bool):Decidable (Q6 c w):=inferInstanceAs (Decidable (_∧_))
def QR (c:DSg)(w:Bool):DCk:=if Q6 c w then (c.1,(QD c.1 c.1.length).map (YX c w)) else ([],[])
variable {c:DSg}{w:Bool}{sig:Int}{k:Nat}{x:ByteArray}
theorem Qxc:YX c true sig=(sig,2,mcV (c.1.length:Int) (Qp c sig upT).1 (Qp c sig upT).2,mcV (c.1.length:Int) (Qp c sig QO).1 (Qp c sig QO).2):=if_pos rfl
theorem Qmv:YX c false sig=(sig,1,nfV c sig,[]):=if_neg Bool.false_ne_true
theorem Qr2:(YX c w sig).1=sig:=by unfold YX;split <;> rfl
theorem Qil (h:Zs c true sig=true):(Qv c sig upT∧Qv c sig QO)∧mcB (c.1.length:Int) (Qp c sig upT).1 (Qp c sig upT).2=true∧mcB (c.1.length:Int) (Qp c sig QO).1 (Qp c sig QO).2=true:=by
 unfold Zs at h
 rw[if_pos rfl] at h
 simp only[aM,aU] at h
 exact ⟨h.1,h.2⟩
theorem Qwg (h:Zs c false sig=true):Qv c sig QL∧mcB (c.1.length:Int) (Qp c sig QL).1 (Qp c sig QL).2=true:=by
 unfold Zs at h
 rw[if_neg (by decide)] at h
 unfold nfB at h
 simp only[aM,aU] at h
 exact h
theorem Qut {n:Int}{l:List ByteArray}(h:Z1 n l):Z1 n []:=⟨h.1,aL _,fun c a=>absurd a bN⟩
theorem Qy4 (h:Zs c w sig=true):Y1 (c.1.length:Int) (YX c w sig):=by
 cases w with
 | true=>
  obtain ⟨_,b,a⟩:=Qil h
  rw[Qxc]
  exact ⟨⟨⟨(by decide:(1:Int)≤2),(by decide:(2:Int)≤2)⟩,(Hx b).1⟩,(Hx a).1,fun e=>absurd (show (2:Int)=1 from e) (by decide)⟩
 | false=>
  obtain ⟨d,b⟩:=Qwg h
  have e:nfV c sig=mcV (c.1.length:Int) (Qp c sig QL).1 (Qp c sig QL).2:=if_pos d
  rw[Qmv]
  have a:=(Hx b).1
  rw[← e] at a
  exact ⟨⟨⟨(by decide:(1:Int)≤1),(by decide:(1:Int)≤2)⟩,a⟩,Qut a,fun _=>rfl⟩
theorem QyG (h:Q6 c w):ZU (QR c w):=by
 unfold QR
 rw[if_pos h]
 refine ⟨⟨h.1.1.sigs,?_⟩,fun g a=> ?_⟩
 ·show ((QD c.1 c.1.length).map (YX c w)).map (fun g=>g.1)=QD c.1 c.1.length
  rw[du]
  refine (List.map_congr_left fun s _=> ?_).trans (List.map_id _)
  exact Qr2
 ·obtain ⟨s,b,rfl⟩:=bd.1 a
  exact Qy4 (au.1 h.2 s b)
theorem QvI (e:SgOk c)(d:k<c.2.1.length):c.2.1[k]? =some (cdA c k)∧Ya c (k:Int)=cdA c k:=by
 have h:c.2.1[k]? =some c.2.1[k]:=ao d
 have a:c.2.1[((k:Int)).toNat]? =some c.2.1[k]:=h
 have b:cdA c k=c.2.1[k]:=Qb2 h
 rw[b]
 exact ⟨h,Xf a⟩
theorem Qy3 (i:SgOk c)(h:Zs c w sig=true)(d:k<c.2.1.length):exG (YX c w sig) (cdA c k)=QW c (k:Int) sig:=by
 obtain ⟨u,b⟩:=QvI i d
 cases w with
 | true=>
  obtain ⟨⟨f,j⟩,o,l⟩:=Qil h
  obtain ⟨_,v,y⟩:=Hx o
  obtain ⟨_,q,r⟩:=Hx l
  have n:Qp c sig upT=Ku c (mOn c sig 48) (mOf c sig 48):=by rw[Qgh f,← QiF i f.1.2.1]
  have m:Qp c sig QO=Ku c (mOn c sig 49) (mOf c sig 49):=by rw[Qgh j,← QiD i f.1.2.1]
  rw[Qxc]
  unfold exG nxG
  dsimp only
  have a:=Qnj i f.1.2.1 d
  rw[b] at a
  rcases a with a|a
  ·rw[if_neg (fun g=>absurd (a.symm.trans g.2) (by decide)),a]
   cases e:QW c (k:Int) sig with
   | true=>rw[v (cdA c k) (by rw[n];exact Qga.2 ⟨k,d,by unfold mOn;rw[b,a,e];rfl,rfl⟩)];rfl
   | false=>rw[y (cdA c k) (by rw[n];exact QbO.2 ⟨k,d,by unfold mOf;rw[b,a,e];rfl,rfl⟩)];rfl
  ·rw[if_pos ⟨rfl,a⟩,a]
   cases e:QW c (k:Int) sig with
   | true=>rw[q (cdA c k) (by rw[m];exact Qga.2 ⟨k,d,by unfold mOn;rw[b,a,e];rfl,rfl⟩)];rfl
   | false=>rw[r (cdA c k) (by rw[m];exact QbO.2 ⟨k,d,by unfold mOf;rw[b,a,e];rfl,rfl⟩)];rfl
 | false=>
  obtain ⟨j,o⟩:=Qwg h
  have t:nfB c sig=true:=by unfold Zs at h;rw[if_neg (by decide)] at h;exact h
  obtain ⟨l,p⟩:=QxD j u t
  have s:ccV (nfV c sig) (cdA c k)=inC (nfV c sig) (cdA c k):=by unfold ccV;rw[aN l];rfl
  rw[s] at p
  rw[Qmv]
  unfold exG nxG
  dsimp only
  rw[if_neg (fun g=>absurd (show (1:Int)=2 from g.1) (by decide)),p]
  unfold nsB
  rw[b]
  cases QW c (k:Int) sig <;> cases decide (bAt (cdA c k) sig=49) <;> rfl
theorem QyE (h:Q6 c w):imB c (QR c w)=true:=by
 unfold imB imR QR
 rw[if_pos h,au]
 intro k b
 rw[au]
 intro g a
 obtain ⟨s,d,rfl⟩:=bd.1 a
 rw[Qr2,Qy3 h.1.1 (au.1 h.2 s d) (bH.1 b)]
 exact beq_self_eq_true _
theorem Qns (h:¬Q6 c w):QR c w=([],[]):=if_neg h
theorem QkV (h:Q6 c w):QR c w=(c.1,(QD c.1 c.1.length).map (YX c w)):=if_pos h
theorem Qud:¬ZU (([],[]):DCk):=fun h=>absurd h.1.1.2.1 (by decide)
end
section
variable {l:List Qy}{x:Qy}{k n:Nat}{c:DCk}{g:DGt}{a_:Int}
theorem QzL (a:l[k]? =some x)(h:x.2=1):QD l (k+1)=QD l k:=by
 unfold QD
 rw[bO,bE,bB]
 simp[a,h]
theorem QmO (a:l[k]? =some x)(h:¬x.2=1):QD l (k+1)=QD l k++[(k:Int)]:=by
 unfold QD
 rw[bO,bE,bB]
 simp[a,h]
theorem QmP:∀{n:Nat},k≤n→∃r,QD l n=QD l k++r
 | 0,h=>⟨[],by rw[show k=0 by omega,br]⟩
 | n+1,h=>by
  by_cases e:k=n+1
  ·exact ⟨[],by rw[e,br]⟩
  ·obtain ⟨r,a⟩:=QmP (n:=n) (by omega)
   unfold QD at a ⊢
   rw[bO,bE,bB,a,aR]
   exact ⟨_,rfl⟩
def LgI (c:DCk)(k:Nat)(a_:Int):Prop:=(0≤a_∧a_≤(c.2.length:Int))∧(c.2.take a_.toNat).map (fun g=>g.1)=QD c.1 k∧∀g∈c.2.take a_.toNat,Y1 (c.1.length:Int) g
theorem QBc:LgI c 0 0:=⟨⟨di _,bV _⟩,rfl,fun g a=>absurd a bN⟩
theorem Qzg (h:LgI c k a_)(b:c.1[k]? =some x)(a:x.2=1):LgI c (k+1) a_:=⟨h.1,by rw[QzL b a];exact h.2.1,h.2.2⟩
theorem Qxq (h:LgI c k a_)(o:c.1[k]? =some x)(d:¬x.2=1)(b:c.2[a_.toNat]? =some g)(f:g.1=(k:Int))(i:Y1 (c.1.length:Int) g):LgI c (k+1) (a_+1):=by
 obtain ⟨⟨p,q⟩,j,m⟩:=h
 have r:=(ai.1 b).1
 have e:(a_+1).toNat=a_.toNat+1:=by omega
 refine ⟨⟨by omega,by omega⟩,?_,?_⟩
 ·rw[e,QE b,bB,j,QmO o d,← f];rfl
 ·rw[e,QE b]
  intro z a
  rcases aQ.1 a with a|a
  ·exact m z a
  ·rw[aF.1 a];exact i
theorem QmH (h:LgI c k a_):((QD c.1 k).length:Int)=a_:=by
 obtain ⟨⟨b,d⟩,a,_⟩:=h
 rw[← a,aH,ap];omega
theorem Qzh (h:LgI c k a_)(b:c.1[k]? =some x)(d:¬x.2=1)(i:a_=(c.2.length:Int)):¬ZU c:=fun g=>by
 have e:=(ai.1 b).1
 obtain ⟨r,f⟩:=QmP (l:=c.1) (k:=k+1) (n:=c.1.length) e
 have a:=congrArg List.length g.1.2
 rw[f,QmO b d] at a
 simp only[aH,ah,av,aC] at a
 have:=QmH h
 omega
theorem Qzi (h:LgI c k a_)(b:c.1[k]? =some x)(d:¬x.2=1)(f:c.2[a_.toNat]? =some g)(e:¬g.1=(k:Int)):¬ZU c:=fun q=>by
 have i:=(ai.1 b).1
 obtain ⟨r,j⟩:=QmP (l:=c.1) (k:=k+1) (n:=c.1.length) i
 have a:=congrArg (fun z:List Int=>z[a_.toNat]?) q.1.2
 have m:=QmH h
 rw[j,QmO b d,bn,f,aR,bl (by omega),show a_.toNat - (QD c.1 k).length=0 by omega] at a
 simp at a
 exact e a
theorem Qzj (b:c.2[a_.toNat]? =some g)(a:¬Y1 (c.1.length:Int) g):¬ZU c:=fun q=>a (q.2 g (ae b))
theorem Qxp [Decidable (ZU c)](i:Yj c.1)(h:LgI c k a_)(p:c.1.length≤k)(f:k≤c.1.length):decide (a_=(c.2.length:Int))=decide (ZU c):=by
 have e:k=c.1.length:=by omega
 subst e
 have o:=QmH h
 obtain ⟨⟨j,m⟩,a,b⟩:=h
 refine bF.2 ⟨fun q=> ?_,fun q=> ?_⟩
 ·rw[aP (by omega)] at a b
  exact ⟨⟨i,a⟩,b⟩
 ·have d:=congrArg List.length q.1.2
  rw[aH] at d
  omega
theorem QwJ [Decidable (ZU c)](d:Yj c.1)(e:c.2.map (fun g=>g.1)=QD c.1 c.1.length):(!(c.2.any fun g=> !decide (Y1 (c.1.length:Int) g)))=decide (ZU c):=by
 cases h:c.2.any fun g=> !decide (Y1 (c.1.length:Int) g) with
 | false=>
  have a:=cr.1 h
  exact (aN ⟨⟨d,e⟩,fun g b=>by simpa using a g b⟩).symm
 | true=>
  obtain ⟨g,b,a⟩:=bu.1 h
  exact (ay fun q=>by have:=q.2 g b;simp[this] at a).symm
theorem Qv8 (h:¬Yj c.1):¬ZU c:=fun q=>h q.1.1
theorem QyF (h:¬c.2.map (fun g=>g.1)=QD c.1 c.1.length):¬ZU c:=fun q=>h q.1.2
end
section
variable {g:DGt}{code:ByteArray}{u:UInt8}{x:DCk}{c:DSg}{k i:Nat}{t:ByteArray}{s:List Qy}
theorem QzG (d:bAt code g.1=u)(a:g.2.1=2)(b:u=49):(!(g.2.2.2.any fun c=>QZ c code))=nxG g code:=(if_pos ⟨a,d.trans b⟩).symm
theorem QzH (a:¬g.2.1=2):(g.2.2.1.any fun c=>QZ c code)=nxG g code:=(if_neg fun q=>a q.1).symm
theorem QzI (b:bAt code g.1=u)(a:¬u=49):(g.2.2.1.any fun c=>QZ c code)=nxG g code:=(if_neg fun q=>a (b.symm.trans q.2)).symm
theorem QBg (a:g.2.1=1):(g.2.2.1.any fun c=>QZ c code)=nxG g code:=QzH (by omega)
theorem QBh (b:bAt code g.1=u)(a:u=48):(g.2.2.1.any fun c=>QZ c code)=nxG g code:=QzI b (by rw[a];decide)
theorem QBi (a:bAt code g.1=u)(e:g.2.1=1∨g.2.1=2)(hb:bAt code g.1=48∨bAt code g.1=49)(d:¬g.2.1=1)(b:¬u=48):(!(g.2.2.2.any fun c=>QZ c code))=nxG g code:=by
 refine QzG a (by omega) ?_
 rw[a] at hb
 rcases hb with h|h
 ·exact absurd h b
 ·exact h
theorem QwW (a:bAt code g.1=u):(!(nxG g code==decide (u=49)))=exG g code:=by unfold exG;rw[a]
theorem QwV (a:bAt code g.1=u)(hb:bAt code g.1=48∨bAt code g.1=49):(!decide ((if nxG g code=true then (49:UInt8) else 48)=u))=exG g code:=by
 unfold exG
 rw[a]
 rw[a] at hb
 rcases hb with rfl|rfl <;> cases nxG g code <;> rfl
theorem QwK (h:ZU x)(f:g∈x.2):(0≤g.1∧g.1<(x.1.length:Int))∧(g.2.1=1∨g.2.1=2)∧(∀c∈g.2.2.1,(c.size:Int)=(x.1.length:Int))∧(∀c∈g.2.2.2,(c.size:Int)=(x.1.length:Int))∧Z1 (x.1.length:Int) g.2.2.1∧Z1 (x.1.length:Int) g.2.2.2:=by
 have a:=h.2 g f
 have d:g.1∈QD x.1 x.1.length:=by rw[← h.1.2];exact bd.2 ⟨g,f,rfl⟩
 refine ⟨?_,by have:=a.1.1;omega,fun c b=>(a.1.2.2.2 c b).2.1,fun c b=>(a.2.1.2.2 c b).2.1,a.1.2,a.2.1⟩
 unfold QD at d
 obtain ⟨j,l,e⟩:=bd.1 d
 have:=bH.1 (bP.1 l).1
 omega
def ImP (c:DSg)(x:DCk):Prop:=(SgOk c∧ZU x)∧c.1=x.1
instance (c:DSg) (x:DCk) [Decidable (SgOk c)] [Decidable (ZU x)]:Decidable (ImP c x):=inferInstanceAs (Decidable (_∧_))
def imV (c:DSg)(x:DCk)[Decidable (SgOk c)][Decidable (ZU x)]:Bool:=decide (ImP c x)&&imB c x
theorem Qdn [Decidable (SgOk c)][Decidable (ZU x)](h:¬ImP c x):false=imV c x∧false=decide (ImP c x):=by
 unfold imV
 rw[ay h]
 exact ⟨rfl,rfl⟩
theorem Qu4 [Decidable (SgOk c)][Decidable (ZU x)](h:ImP c x)(f:k<c.2.1.length)(e:x.2[i]? =some g)(j:c.2.1[k]? =some code)(d:¬exG g code=QW c (k:Int) g.1):false=imV c x∧true=decide (ImP c x):=by
 unfold imV
 rw[aN h]
 refine ⟨?_,rfl⟩
 rw[Bool.true_and]
 refine (cD.2 fun q=>d ?_).symm
 unfold imB at q
 have a:=au.1 q k (bH.2 f)
 unfold imR at a
 have b:=au.1 a g (ae e)
 rw[Qb2 j] at b
 exact eq_of_beq b
theorem Qr9 (h:∀j,j<i→∀g,x.2[j]? =some g→exG g code=QW c (k:Int) g.1)(hi:x.2.length≤i)(d:c.2.1[k]? =some code):imR c x k=true:=by
 unfold imR
 rw[au]
 intro g b
 obtain ⟨j,a⟩:=aK.1 b
 rw[Qb2 d,h j (ba (ai.1 a).1 hi) g a]
 exact beq_self_eq_true _
theorem Qu5 [Decidable (SgOk c)][Decidable (ZU x)](h:ImP c x)(a:∀j,j<k→imR c x j=true)(d:c.2.1.length≤k):true=imV c x∧true=decide (ImP c x):=by
 unfold imV
 rw[aN h]
 refine ⟨?_,rfl⟩
 rw[Bool.true_and]
 unfold imB
 exact (au.2 fun j b=>a j (ba (bH.1 b) d)).symm
theorem QnR (a:∀j,j<k→imR c x j=true)(h:imR c x k=true):∀j,j<k+1→imR c x j=true:=fun j b=>by
 by_cases e:j=k
 ·rw[e];exact h
 ·exact a j (by omega)
abbrev slT:ByteArray:=⟨#[32,47,32]⟩
def gtT (s:List Qy)(g:DGt):ByteArray:=(((s[g.1.toNat]?).getD (ByteArray.empty,0)).1++eqT++cvT s g.2.2.1)++(if g.2.1=2 then slT++cvT s g.2.2.2 else ⟨#[]⟩)++nlT
def ftK (x:DCk)(k:Nat):ByteArray:=((x.2.take k).map (gtT x.1)).foldl (fun a b=>a++b) ⟨#[]⟩
def ftV (x:DCk)[Decidable (ZU x)]:ByteArray:=if ZU x then ftK x x.2.length else ⟨#[]⟩
theorem QuV (a:x.2[k]? =some g)(e:t=ftK x k):t++gtT x.1 g=ftK x (k+1):=by
 rw[e]
 unfold ftK
 rw[QE a,bB,cP];rfl
theorem QuU [Decidable (ZU x)](h:¬ZU x):(⟨#[]⟩:ByteArray)=ftV x∧false=decide (ZU x):=⟨(if_neg h).symm,(ay h).symm⟩
theorem QuW [Decidable (ZU x)](h:ZU x)(a:x.2.length≤k)(e:t=ftK x k):t=ftV x∧true=decide (ZU x):=by
 refine ⟨?_,(aN h).symm⟩
 unfold ftV
 rw[if_pos h,e]
 unfold ftK
 rw[aP a,aP (aO _)]
theorem QzE (h:Yj s):VI s:=fun g b=>by
 obtain ⟨k,a⟩:=aK.1 b
 exact (h.1 k (ai.1 a).1 g a).1.2
theorem QdU (b:VI s)(a:s.length≤8)(d:g.2.2.1.length≤60)(e:g.2.2.2.length≤60):(gtT s g).size≤9000:=by
 unfold gtT
 simp only[ax]
 have h:=(Ho (l:=g.2.2.1) b a d).2
 have j:=(Ho (l:=g.2.2.2) b a e).2
 have m:eqT.size=3:=rfl
 have n:nlT.size=1:=rfl
 have o:slT.size=3:=rfl
 have a:(((s[g.1.toNat]?).getD (ByteArray.empty,0)).1).size≤6:=by
  cases f:s[g.1.toNat]? with
  | none=>exact aL _
  | some q=>exact (b q (ae f)).2
 have p:(if g.2.1=2 then slT++cvT s g.2.2.2 else ⟨#[]⟩:ByteArray).size≤3+(cvT s g.2.2.2).size:=by
  split
  ·rw[ax];omega
  ·exact aL _
 omega
theorem Qho {q:Qy}(a:s[g.1.toNat]? =some q)(h:g.2.1=2):t++gtT s g=(t++((q.1++eqT)++cvT s g.2.2.1))++(slT++cvT s g.2.2.2)++nlT:=by
 unfold gtT
 rw[a,if_pos h]
 simp only[aj,ByteArray.append_assoc]
theorem Qhn {q:Qy}(a:s[g.1.toNat]? =some q)(h:¬g.2.1=2):t++gtT s g=(t++((q.1++eqT)++cvT s g.2.2.1))++nlT:=by
 unfold gtT
 rw[a,if_neg h]
 simp only[aj,ByteArray.append_assoc]
 have:(⟨#[]⟩:ByteArray)++nlT=nlT:=by decide
 rw[this]
end
end Go.Proofs.YtjfpbcmfbnnooaaGreat
