/- Walks over abstract states: graphs built from words. -/
import Derived.Test.YtfkmmpfdncopdaaGreatNDf
import Derived.Test.YtfkmmpfdncopdaaGreatNAg
import Derived.Test.YtfkmmpfdncopdaaGreatNWj
import Derived.Test.YtfkmmpfdncopdaaGreatNUa
set_option linter.unusedSimpArgs false
set_option linter.unusedVariables false
set_option linter.unusedSectionVars false
namespace Go.Proofs.YtfkmmpfdncopdaaGreat
open Go.RowKit
set_option maxRecDepth 100000
set_option maxHeartbeats 4000000
section
variable {s:ByteArray}{b c:UInt8}{i:Nat}{out:List ByteArray}{fr:Int}
theorem Qks (hA:(out,fr)=spS s b i)(hi:s.size≤i)(hk:i≤s.size):out++[s.extract fr.toNat s.size]=Zw s b:=by
  have e:i=s.size:=by omega
  subst e
  unfold Zw
  rw[← hA]
theorem QkI (hA:(out,fr)=spS s b i)(h:s[((i:Nat):Int).toNat]? =some c)(e:c=b):(out++[s.extract fr.toNat ((i:Nat):Int).toNat],(i:Int)+1)=spS s b (i+1):=by
  rw[Int.toNat_natCast] at h ⊢
  rw[← QnJ h e,← hA]
theorem Qkp (s:ByteArray)(b:UInt8):1≤(Zw s b).length:=by unfold Zw; rw[ai,au,aF]; omega
theorem Jb {x:ByteArray}(h:x∈Zw s b):x.size≤s.size:=by
  have h1:∀i,∀x∈(spS s b i).1,x.size≤s.size:=fun i=>by
    induction i with
    | zero=>intro x h; cases h
    | succ i ih=>
      intro x h
      rw[spS] at h
      split at h
      · rcases aK.1 h with h | h
        · exact ih x h
        · rw[aC.1 h]; simp only[aS]; omega
      · exact ih x h
  unfold Zw at h
  rcases aK.1 h with h | h
  · exact h1 _ x h
  · rw[aC.1 h]; simp only[aS]; omega
theorem Qmy (hA:(out,fr)=spS s b i)(h:s[((i:Nat):Int).toNat]? =some c)(e:¬c=b):(out,fr)=spS s b (i+1):=by
  rw[Int.toNat_natCast] at h
  rw[← QpZ h e,← hA]
end
theorem XZ (s:ByteArray)(b:UInt8)(hs:s.size≤100000):FC Tryz.prog 259 [(false,[dS s]),(false,[.dat .u8 b])] [] 0 (WC 9 .str (Zw s b)):=by
 refine Ql Tryz.func259 rfl rfl Tryz.ntmps259 fun O_ hO w0_ N0_ X_ h0_ f0_=> ?_
 iterate 14 refine w_ ?_
 refine AC.wk (Wk.nilS 0 5 9 .str rfl (Fresh.of rfl) (nlr rfl)) ?_
 refine Qy (fun m_ s_=>∃(i:Nat) (out:List ByteArray) (fr:Int),i≤s.size∧m_=s.size - i∧((out,fr)=spS s b i)∧s_=⟨[(0,lf (dS s)),(1,lf (.dat .u8 b)),(4,lf (.val (.slice none 0 0))),(5,lR 1),(6,lI fr),(7,lI (i:Int))],[ar 1 9 .str out]⟩) ⟨0,([]:((.sl 9 .str):Ty).Den),0,aR _,rfl,rfl,rfl⟩ ?_ ?_
 · exact Wk.of [(1,0)] rfl ⟨rfl,rfl,rfl,rfl,rfl,rfl,trivial⟩ ⟨(Qn (by first | rfl | simp)),trivial⟩ rfl rfl
 rintro m_ s_ ⟨i,out,fr,hk1,hm2,hA,rfl⟩
 have hsr:=Qjt (s:=s) (b:=b) (i:=i)
 rw[← hA] at hsr
 dsimp only at hsr
 iterate 4 refine w_ ?_
 refine alS 9 fun hl3=> ?_
 refine lc (QZ (Qa rfl) rfl Zc) ?_
 iterate 2 refine w_ ?_
 cases hb4:(decide ((i:Int) < (s.size:Int)))
 ·have hb4':=ab hb4
  refine w_ ?_
  refine Qj ?_
  refine (?_:AC _ _ _ _ _)
  iterate 4 refine w_ ?_
  refine lc (show Does _ _ _ _ (St.put _ 31 (lf (dS (s.extract (fr).toNat s.size)))) from QW (l:=(some fr)) (h:=none) (Qa rfl) (by exact (Qa rfl)) (by exact trivial) Zc rfl (by first | omega | (simp only[ak,aj]; omega)) (by first | omega | (simp only[ak,aj]; omega)) (by first | omega | (simp only[ak,aj]; omega))) ?_
  refine lc (dBs 2 (e:= .str) Yb) ?_
  refine lc (dA 3 Y6) ?_
  iterate 2 refine w_ ?_
  refine Qb<|fo_ hO ?_
  exact Qks hA (by omega) hk1
 ·have hb4':=ae hb4
  iterate 7 refine w_ ?_
  obtain ⟨c5,hc6⟩:∃z,s[((i:Int)).toNat]? =some z:=⟨_,aY _ _ (by omega)⟩
  have hcz:=hc6
  iterate 4 refine w_ ?_
  cases hb7:(decide (c5=b))
  ·have hb7':=ab hb7
   refine w_ ?_
   refine AC.skip ?_
   refine (?_:AC _ _ _ _ _)
   iterate 4 refine w_ ?_
   refine Qd<|Q0 ⟨i+1,out,fr,by omega,rfl,(by exact Qmy hA hcz (by assumption)),rfl⟩ (by omega) ?_
   exact Wk.of [] rfl ⟨rfl,rfl,rfl,rfl,rfl,rfl,trivial⟩ ⟨rfl,trivial⟩ rfl rfl
  ·have hb7':=ae hb7
   iterate 6 refine w_ ?_
   refine lc (show Does _ _ _ _ (St.put _ 23 (lf (dS (s.extract (fr).toNat ((i:Int)).toNat)))) from QW (l:=(some fr)) (h:=(some (i:Int))) (Qa rfl) (by exact (Qa rfl)) (by exact (Qa rfl)) Zc rfl (by first | omega | (simp only[ak,aj]; omega)) (by first | omega | (simp only[ak,aj]; omega)) (by first | omega | (simp only[ak,aj]; omega))) ?_
   refine lc (dBs 4 (e:= .str) Yb) ?_
   refine lc (dA 5 Y6) ?_
   iterate 6 refine w_ ?_
   refine Qd ?_
   refine (?_:AC _ _ _ _ _)
   iterate 4 refine w_ ?_
   refine Qd<|Q0 ⟨i+1,(out++([s.extract (fr).toNat ((i:Int)).toNat])),((i:Int)+1),by omega,rfl,(by exact QkI hA hcz (by assumption)),rfl⟩ (by omega) ?_
   exact Wk.of [(1,5)] rfl ⟨rfl,rfl,rfl,rfl,rfl,rfl,trivial⟩ ⟨(Qn (by first | rfl | simp)),trivial⟩ rfl rfl
section
variable {word text nm:ByteArray}{G:List Qz}{c0 cz:UInt8}{k:Nat}{x:DTr}{T_:List DTr}{t p:Int}
theorem QqA (hn:Jq word=nm)(hc:nm[(0:Int).toNat]? =some c0)(h:c0=126):((-1,false):ZF)=QhP G word:=by
  unfold QhP b0
  rw[hn,show nm[0]? =some c0 from hc]
  exact (if_pos (show (some c0).getD 0=126 from h)).symm
theorem QpH (hn:Jq word=nm)(hc:nm[(0:Int).toNat]? =some c0)(h:¬c0=126)(hz:nm[((nm.size:Int) - 1).toNat]? =some cz):
    ((Q4 (fun g=>decide (g.1=nm.extract 0 ((nm.size:Int) - 1).toNat)) G,decide (cz=43)):ZF)=QhP G word:=by
  unfold QhP b0 bZ
  have e:((nm.size:Int) - 1).toNat=nm.size - 1:=by omega
  rw[e] at hz ⊢
  rw[hn,show nm[0]? =some c0 from hc]
  refine Eq.trans ?_ (if_neg (show¬(some c0).getD 0=126 from h)).symm
  rw[hz]; rfl
theorem Qkg (hx:T_[t.toNat]? =some x):T_.set t.toNat (x.1,QN ltI p x.2)=QbP T_ t p:=by
  unfold QbP
  apply bA
  intro i
  rw[bz,cD]
  by_cases e:t.toNat=i
  · subst e; rw[hx]; simp[(ah.1 hx).1]
  · simp[e]
theorem Qkk (hx:T_[t.toNat]? =some x):T_.set t.toNat (QN ltI p x.1,x.2)=Qa8 T_ t p:=by
  unfold Qa8
  apply bA
  intro i
  rw[bz,cD]
  by_cases e:t.toNat=i
  · subst e; rw[hx]; simp[(ah.1 hx).1]
  · simp[e]
end
theorem J1 (b:DB)(name:ByteArray)(hp:0≤b.1.1.1∧b.1.1.1≤100000)(hl:b.2.1.length≤100000∧b.1.2.2.2.size≤100000):FC Tryz.prog 317 [(false,[.ptr 0 0]),(false,[dS name])] [bx 0 274 [dI b.1.1.1, .ref 1, .ref 2, .ref 3,dS b.1.2.2.2, .ref 5, .ref 4],ar 1 237 (.pr (.sl 3 .int) (.sl 3 .int)) b.1.1.2,ar 2 203 (.pr .str .int) b.1.2.1,ar 3 120 (.pr .int .bool) b.1.2.2.1,ar 5 9 .str b.2.1,ar 4 9 .str b.2.2] 5 (Is (lI (plI b name)) [bx 0 274 [dI ((plV b name).1.1.1), .ref 1, .ref 2, .ref 3,dS ((plV b name).1.2.2.2), .ref 5, .ref 4],ar 1 237 (.pr (.sl 3 .int) (.sl 3 .int)) ((plV b name).1.1.2),ar 2 203 (.pr .str .int) ((plV b name).1.2.1),ar 3 120 (.pr .int .bool) ((plV b name).1.2.2.1),ar 5 9 .str ((plV b name).2.1),ar 4 9 .str ((plV b name).2.2)]):=by
 refine Ql Tryz.func317 rfl rfl Tryz.ntmps317 fun O_ hO w0_ N0_ X_ h0_ f0_=> ?_
 iterate 13 refine w_ ?_
 refine lpK b.2.1.length (fun k=>NoneTo (fun y=>decide (y=name)) b.2.1 k) (fun k=>⟨[(0,lP 0 0),(1,lf (dS name)),(10,lR 5),(11,lI (b.2.1.length:Int)),(12,lI (k:Int))],[bx 0 274 [dI b.1.1.1, .ref 1, .ref 2, .ref 3,dS b.1.2.2.2, .ref 5, .ref 4],ar 1 237 (.pr (.sl 3 .int) (.sl 3 .int)) b.1.1.2,ar 2 203 (.pr .str .int) b.1.2.1,ar 3 120 (.pr .int .bool) b.1.2.2.1,ar 4 9 .str b.2.2,ar 5 9 .str b.2.1]⟩) (NoneTo.zero) ?_ fun k hk1 hno=> ?_
 · exact Wk.of [] rfl ⟨rfl,rfl,rfl,rfl,rfl,trivial⟩ ⟨rfl,rfl,rfl,rfl,rfl,rfl,trivial⟩ rfl rfl
 iterate 4 refine w_ ?_
 cases hb2:(decide ((k:Int) < (b.2.1.length:Int)))
 ·have hb2':=ab hb2
  refine w_ ?_
  refine Qj ?_
  refine (?_:AC _ _ _ _ _)
  iterate 7 refine w_ ?_
  refine lc (dBs 6 (e:= .str) Yb) ?_
  refine lc (dA 7 Y6) ?_
  iterate 10 refine w_ ?_
  refine lc (Q3 (Qa rfl) (Evl.str rfl) rfl (by (simp only[Ya]; omega))) ?_
  iterate 12 refine w_ ?_
  refine alI 46 fun hi3=> ?_
  refine lc (Wv (Qa rfl) (Qo rfl) rfl (by first | omega | (simp only[ai,au,aF]; omega))) ?_
  iterate 12 refine w_ ?_
  refine lc (WF (Qa rfl) (Qo rfl) rfl (by first | omega | (simp only[ai,au,aF]; omega))) ?_
  iterate 2 refine w_ ?_
  refine Qb ?_
  have e4:(((b.2.1++([name])).length:Int) - 1:Int)=(plI b name):=by
   (unfold plI; rw[JJ (ZT hno (by omega)),ai]; simp)
  exact fi_ [(5,7)] hO ⟨(((congrArg (fun z_=>some (Ent.box 274 [dI z_, .ref 1, .ref 2, .ref 3,dS (b.1.2.2.2++(⟨#[48]⟩:ByteArray)), .ref 7, .ref 4])) (show (b.1.1.1+1:Int)=(plV b name).1.1.1 by (rw[We (ZT hno (by omega))]; done)))).trans (congrArg (fun z_=>some (Ent.box 274 [dI ((plV b name).1.1.1), .ref 1, .ref 2, .ref 3,dS z_, .ref 7, .ref 4])) (show (b.1.2.2.2++(⟨#[48]⟩:ByteArray):ByteArray)=(plV b name).1.2.2.2 by (rw[We (ZT hno (by omega))]; done)))),(Qn (by (rw[We (ZT hno (by omega))]; done))),(Qn (by (rw[We (ZT hno (by omega))]; done))),(Qn (by (rw[We (ZT hno (by omega))]; done))),(Qn (by (rw[We (ZT hno (by omega))]; done))),(Qn (by (rw[We (ZT hno (by omega))]; done))),trivial⟩ (h0:=(congrArg (fun z_=>lI z_) e4))
 ·have hb2':=ae hb2
  iterate 7 refine w_ ?_
  obtain ⟨x,hx6⟩:∃z,b.2.1[k]? =some z:=⟨_,aa (by omega)⟩
  have hxz:=hx6
  iterate 9 refine w_ ?_
  cases hb7:(decide (x=name))
  ·have hb7':=ab hb7
   refine w_ ?_
   refine AC.skip ?_
   refine (?_:AC _ _ _ _ _)
   refine w_ ?_
   refine lc (Wv (Qa rfl) (Qo rfl) rfl (by first | omega | (simp only[ai,au,aF]; omega))) ?_
   refine w_ ?_
   refine Qd ?_
   refine lK_ (hno.step hx6 (ay (by assumption))) ?_
   exact Wk.of [] rfl ⟨rfl,rfl,rfl,rfl,rfl,trivial⟩ ⟨rfl,rfl,rfl,rfl,rfl,rfl,trivial⟩ rfl rfl
  ·have hb7':=ae hb7
   iterate 5 refine w_ ?_
   refine Qb ?_
   have e8:((k:Int):Int)=(plI b name):=by
    exact Qlh hno hxz (by assumption)
   exact fi_ [] hO ⟨(((congrArg (fun z_=>some (Ent.box 274 [dI z_, .ref 1, .ref 2, .ref 3,dS b.1.2.2.2, .ref 5, .ref 4])) (show (b.1.1.1:Int)=(plV b name).1.1.1 by (rw[V1 (YB hxz (by assumption))]; done)))).trans (congrArg (fun z_=>some (Ent.box 274 [dI ((plV b name).1.1.1), .ref 1, .ref 2, .ref 3,dS z_, .ref 5, .ref 4])) (show (b.1.2.2.2:ByteArray)=(plV b name).1.2.2.2 by (rw[V1 (YB hxz (by assumption))]; done)))),(Qn (by (rw[V1 (YB hxz (by assumption))]; done))),(Qn (by (rw[V1 (YB hxz (by assumption))]; done))),(Qn (by (rw[V1 (YB hxz (by assumption))]; done))),(Qn (by (rw[V1 (YB hxz (by assumption))]; done))),(Qn (by (rw[V1 (YB hxz (by assumption))]; done))),trivial⟩ (h0:=(congrArg (fun z_=>lI z_) e8))
theorem WL (b:DB)(word:ByteArray)(hw:word.size≤1000∧1≤(Jq word).size)(hl:b.1.1.2.length≤100000∧b.1.2.2.1.length≤100000∧b.2.2.length≤100000):FC Tryz.prog 318 [(false,[.ptr 0 0]),(false,[dS word])] [bx 0 274 [dI b.1.1.1, .ref 3, .ref 1, .ref 4,dS b.1.2.2.2, .ref 2, .ref 5],ar 3 237 (.pr (.sl 3 .int) (.sl 3 .int)) b.1.1.2,ar 1 203 (.pr .str .int) b.1.2.1,ar 4 120 (.pr .int .bool) b.1.2.2.1,ar 2 9 .str b.2.1,ar 5 9 .str b.2.2] 3 (Is (lI (trI b word)) [bx 0 274 [dI ((Zi b word).1.1.1), .ref 3, .ref 1, .ref 4,dS ((Zi b word).1.2.2.2), .ref 2, .ref 5],ar 3 237 (.pr (.sl 3 .int) (.sl 3 .int)) ((Zi b word).1.1.2),ar 1 203 (.pr .str .int) ((Zi b word).1.2.1),ar 4 120 (.pr .int .bool) ((Zi b word).1.2.2.1),ar 2 9 .str ((Zi b word).2.1),ar 5 9 .str ((Zi b word).2.2)]):=by
 have hsp:=Qkp word 47
 refine Ql Tryz.func318 rfl rfl Tryz.ntmps318 fun O_ hO w0_ N0_ X_ h0_ f0_=> ?_
 iterate 13 refine w_ ?_
 refine lpK b.2.2.length (fun k=>NoneTo (fun y=>decide (y=word)) b.2.2 k) (fun k=>⟨[(0,lP 0 0),(1,lf (dS word)),(12,lR 5),(13,lI (b.2.2.length:Int)),(14,lI (k:Int))],[bx 0 274 [dI b.1.1.1, .ref 3, .ref 1, .ref 4,dS b.1.2.2.2, .ref 2, .ref 5],ar 1 203 (.pr .str .int) b.1.2.1,ar 2 9 .str b.2.1,ar 3 237 (.pr (.sl 3 .int) (.sl 3 .int)) b.1.1.2,ar 4 120 (.pr .int .bool) b.1.2.2.1,ar 5 9 .str b.2.2]⟩) (NoneTo.zero) ?_ fun k hk1 hno=> ?_
 · exact Wk.of [] rfl ⟨rfl,rfl,rfl,rfl,rfl,trivial⟩ ⟨rfl,rfl,rfl,rfl,rfl,rfl,trivial⟩ rfl rfl
 iterate 4 refine w_ ?_
 cases hb2:(decide ((k:Int) < (b.2.2.length:Int)))
 ·have hb2':=ab hb2
  refine w_ ?_
  refine Qj ?_
  refine (?_:AC _ _ _ _ _)
  iterate 7 refine w_ ?_
  refine lc (dBs 6 (e:= .str) Yb) ?_
  refine lc (dA 7 Y6) ?_
  iterate 6 refine w_ ?_
  refine lc (U3 (XZ word 47 (by omega)).frozen Jd ⟨_,_,rfl,(Qm rfl),⟨_,_,rfl,(Evl.ev (QG 47 rfl)),rfl⟩⟩ rfl rfl) ?_
  obtain ⟨nm,hx4⟩:∃z,(Zw word 47)[0]? =some z:=⟨_,aa (by omega)⟩
  have hnw:Jq word=nm:=by unfold Jq; rw[show (Zw word 47)[0]? =some nm from hx4]; rfl
  have hnz:1≤nm.size:=by rw[← hnw]; exact hw.2
  have hnl:=Jb (ap hx4)
  iterate 5 refine w_ ?_
  refine lc (Qp UX ⟨_,_,rfl,(Evl.ev (Qo rfl)),rfl⟩ (aB.1 rfl) rfl rfl)<|lc (xal 8 (.pr .int .bool) XH) ?_
  iterate 5 refine w_ ?_
  obtain ⟨c0,hc6⟩:∃z,nm[(0:Int).toNat]? =some z:=⟨_,aY _ _ (by omega)⟩
  have hc0:=hc6
  refine w_ ?_
  refine lc (QD (Qa rfl) (QG 126 rfl) rfl) ?_
  refine w_ ?_
  refine cn_ (fun hb7 hb7'=> ?_) fun hb7 hb7'=> ?_
  ·iterate 9 refine w_ ?_
   refine lc (Qp Qa4 rfl (aB.1 rfl) rfl rfl) ?_
   refine lc (dBs 9 (e:=(.pr (.sl 3 .int) (.sl 3 .int))) V2 (hab:=by exact ⟨_,_,_,_,rfl,⟨[.val (.slice none 0 0)],[.val (.slice none 0 0)],_,_,_,_,rfl,rfl,(.inr ⟨rfl,rfl,rfl⟩),(.inr ⟨rfl,rfl,rfl⟩),rfl⟩,⟨rfl,rfl⟩,rfl⟩)) ?_
   refine lc (dA 10 QaZ) ?_
   iterate 6 refine w_ ?_
   apply dW (i7 74 _ _ _ _ _ _ _ (⟨some 81,lR 11,[ar 11 120 (.pr .int .bool) ([((-1),false)])]⟩ :: ⟨some 82,lR 12,[ar 12 120 (.pr .int .bool) (b.1.2.2.1++([((-1),false)])),(4,none),(11,none)]⟩ :: i3 83 _ _ _ [⟨none,lf (.val undef),[bx 0 274 [dI b.1.1.1, .ref 10, .ref 1, .ref 12,dS b.1.2.2.2, .ref 2, .ref 7]]⟩])) [0,1,1,1,1,1,63,63,1,0,0,0,0]
   iterate 7 refine z_ ?_
   refine zz (fun _ h_=>ac (dBs 11 (e:=(.pr .int .bool)) XH (hab:=by exact ⟨_,_,_,_,rfl,⟨[dI (-1)],[dB false],_,_,_,_,rfl,rfl,⟨rfl,rfl⟩,⟨rfl,rfl⟩,rfl⟩,⟨rfl,rfl⟩,rfl⟩)) rfl) ?_
   refine zz (fun _ h_=>ac (dA 12 Jy) rfl) ?_
   iterate 3 refine z_ ?_
   refine zz (fun _ h_=>ac (Zf (h_.v rfl) (h_.en 0 rfl) (h_.w rfl) (by simp only[Q6,Vb,bm,bJ]; rw[(h_.en 12 rfl)]; rfl) Qlx rfl) rfl) ?_
   exact zN
   iterate 6 refine w_ ?_
   refine lc (WF (Qa rfl) (Qo rfl) rfl (by first | omega | (simp only[ai,au,aF]; omega))) ?_
   iterate 2 refine w_ ?_
   refine Qb ?_
   have e8:(((b.2.2++([word])).length:Int) - 1:Int)=(trI b word):=by
    (unfold trI; rw[JJ (ZT hno (by omega)),ai]; simp)
   exact fi_ [(3,10),(4,12),(5,7)] hO ⟨(((congrArg (fun z_=>some (Ent.box 274 [dI z_, .ref 10, .ref 1, .ref 12,dS b.1.2.2.2, .ref 2, .ref 7])) (show (b.1.1.1:Int)=(Zi b word).1.1.1 by (rw[ZN (ZT hno (by omega))]; done)))).trans (congrArg (fun z_=>some (Ent.box 274 [dI ((Zi b word).1.1.1), .ref 10, .ref 1, .ref 12,dS z_, .ref 2, .ref 7])) (show (b.1.2.2.2:ByteArray)=(Zi b word).1.2.2.2 by (rw[ZN (ZT hno (by omega))]; done)))),(Qn (by (rw[ZN (ZT hno (by omega))]; done))),(Qn (by (rw[ZN (ZT hno (by omega))]; done))),(Qn (by (rw[ZN (ZT hno (by omega)),← QqA hnw hc0 (by assumption)]; done))),(Qn (by (rw[ZN (ZT hno (by omega))]; done))),(Qn (by (rw[ZN (ZT hno (by omega))]; done))),trivial⟩ (h0:=(congrArg (fun z_=>lI z_) e8))
  ·obtain ⟨cz,hc10⟩:∃z,nm[((nm.size:Int) - 1).toNat]? =some z:=⟨_,aY _ _ (by omega)⟩
   have hcz:=hc10
   apply dZ (i7 42 _ _ _ _ _ _ _ (io 49 (lI (nm.size:Int)) :: io 50 (lI ((nm.size:Int) - 1)) :: io 51 (lf (dS (nm.extract 0 ((nm.size:Int) - 1).toNat))) :: io 52 (lI (Q4 (fun x:Qz=>decide (x.1=(nm.extract 0 ((nm.size:Int) - 1).toNat))) b.1.2.1)) :: i2 53 _ _ [io 55 (lI (nm.size:Int)),io 56 (lI ((nm.size:Int) - 1)),io 57 _,io 58 (lB (decide (cz=43))),io 59 (ag [dI (Q4 (fun x:Qz=>decide (x.1=(nm.extract 0 ((nm.size:Int) - 1).toNat))) b.1.2.1),dB (decide (cz=43))]),⟨none,lf (.val undef),[bx 8 120 [dI (Q4 (fun x:Qz=>decide (x.1=(nm.extract 0 ((nm.size:Int) - 1).toNat))) b.1.2.1),dB (decide (cz=43))]]⟩])) [0,0,0,0,0,31,63,63,63,31,0,2047,4095,4095,4095,2047,2047,0,0]
   iterate 7 refine z_ ?_
   refine zz (fun _ h_=>ac (QZ (h_.v rfl) rfl Zc) rfl)<|zz (fun _ h_=>ac (WF (h_.v rfl) (Qo rfl) rfl (by first | omega | (simp only[ai,au,aF]; omega))) rfl)<|zz (fun _ h_=>ac (show Does _ _ _ _ (St.put _ 51 (lf (dS (nm.extract 0 ((nm.size:Int) - 1).toNat)))) from QW (l:=none) (h:=(some ((nm.size:Int) - 1))) (h_.v rfl) (by exact trivial) (by exact (h_.v rfl)) Zc rfl (by first | omega | (simp only[ak,aj]; omega)) (by first | omega | (simp only[ak,aj]; omega)) (by first | omega | (simp only[ak,aj]; omega))) rfl) ?_
   refine zz (fun _ h_=>ac (dB_ (Hv b.1.2.1 (nm.extract 0 ((nm.size:Int) - 1).toNat)) QhH) rfl) ?_
   iterate 2 refine z_ ?_
   refine zz (fun _ h_=>ac (QZ (h_.v rfl) rfl Zc) rfl)<|zz (fun _ h_=>ac (WF (h_.v rfl) (Qo rfl) rfl (by first | omega | (simp only[ai,au,aF]; omega))) rfl) ?_
   refine z_ ?_
   refine zz (fun _ h_=>ac (Zm (h_.v rfl) (QG 43 rfl) rfl) rfl)<|zz (fun _ h_=>ac (Qp UX ⟨_,_,rfl,(h_.w rfl),⟨_,_,rfl,(h_.w rfl),rfl⟩⟩ (aB.1 rfl) rfl rfl) rfl) ?_
   refine z_ ?_
   exact zN
   iterate 8 refine w_ ?_
   refine lc (Qp Qa4 rfl (aB.1 rfl) rfl rfl) ?_
   refine lc (dBs 13 (e:=(.pr (.sl 3 .int) (.sl 3 .int))) V2 (hab:=by exact ⟨_,_,_,_,rfl,⟨[.val (.slice none 0 0)],[.val (.slice none 0 0)],_,_,_,_,rfl,rfl,(.inr ⟨rfl,rfl,rfl⟩),(.inr ⟨rfl,rfl,rfl⟩),rfl⟩,⟨rfl,rfl⟩,rfl⟩)) ?_
   refine lc (dA 14 QaZ) ?_
   iterate 6 refine w_ ?_
   apply dW (i7 74 _ _ _ _ _ _ _ (⟨some 81,lR 15,[ar 15 120 (.pr .int .bool) ([(Q4 (fun x:Qz=>decide (x.1=(nm.extract 0 ((nm.size:Int) - 1).toNat))) b.1.2.1,decide (cz=43))])]⟩ :: ⟨some 82,lR 16,[ar 16 120 (.pr .int .bool) (b.1.2.2.1++([(Q4 (fun x:Qz=>decide (x.1=(nm.extract 0 ((nm.size:Int) - 1).toNat))) b.1.2.1,decide (cz=43))])),(4,none),(15,none)]⟩ :: i3 83 _ _ _ [⟨none,lf (.val undef),[bx 0 274 [dI b.1.1.1, .ref 14, .ref 1, .ref 16,dS b.1.2.2.2, .ref 2, .ref 7]]⟩])) [0,1,1,1,1,1,63,63,1,0,0,0,0]
   iterate 7 refine z_ ?_
   refine zz (fun _ h_=>ac (dBs 15 (e:=(.pr .int .bool)) XH (hab:=by exact ⟨_,_,_,_,rfl,⟨[dI (Q4 (fun x:Qz=>decide (x.1=(nm.extract 0 ((nm.size:Int) - 1).toNat))) b.1.2.1)],[dB (decide (cz=43))],_,_,_,_,rfl,rfl,⟨rfl,rfl⟩,⟨rfl,rfl⟩,rfl⟩,⟨rfl,rfl⟩,rfl⟩)) rfl) ?_
   refine zz (fun _ h_=>ac (dA 16 Jy) rfl) ?_
   iterate 3 refine z_ ?_
   refine zz (fun _ h_=>ac (Zf (h_.v rfl) (h_.en 0 rfl) (h_.w rfl) (by simp only[Q6,Vb,bm,bJ]; rw[(h_.en 16 rfl)]; rfl) Qlx rfl) rfl) ?_
   exact zN
   iterate 6 refine w_ ?_
   refine lc (WF (Qa rfl) (Qo rfl) rfl (by first | omega | (simp only[ai,au,aF]; omega))) ?_
   iterate 2 refine w_ ?_
   refine Qb ?_
   have e11:(((b.2.2++([word])).length:Int) - 1:Int)=(trI b word):=by
    (unfold trI; rw[JJ (ZT hno (by omega)),ai]; simp)
   exact fi_ [(3,14),(4,16),(5,7)] hO ⟨(((congrArg (fun z_=>some (Ent.box 274 [dI z_, .ref 14, .ref 1, .ref 16,dS b.1.2.2.2, .ref 2, .ref 7])) (show (b.1.1.1:Int)=(Zi b word).1.1.1 by (rw[ZN (ZT hno (by omega))]; done)))).trans (congrArg (fun z_=>some (Ent.box 274 [dI ((Zi b word).1.1.1), .ref 14, .ref 1, .ref 16,dS z_, .ref 2, .ref 7])) (show (b.1.2.2.2:ByteArray)=(Zi b word).1.2.2.2 by (rw[ZN (ZT hno (by omega))]; done)))),(Qn (by (rw[ZN (ZT hno (by omega))]; done))),(Qn (by (rw[ZN (ZT hno (by omega))]; done))),(Qn (by (rw[ZN (ZT hno (by omega)),← QpH hnw hc0 (by assumption) hcz]; done))),(Qn (by (rw[ZN (ZT hno (by omega))]; done))),(Qn (by (rw[ZN (ZT hno (by omega))]; done))),trivial⟩ (h0:=(congrArg (fun z_=>lI z_) e11))
 ·have hb2':=ae hb2
  iterate 7 refine w_ ?_
  obtain ⟨x,hx13⟩:∃z,b.2.2[k]? =some z:=⟨_,aa (by omega)⟩
  have hxz:=hx13
  iterate 9 refine w_ ?_
  cases hb14:(decide (x=word))
  ·have hb14':=ab hb14
   refine w_ ?_
   refine AC.skip ?_
   refine (?_:AC _ _ _ _ _)
   refine w_ ?_
   refine lc (Wv (Qa rfl) (Qo rfl) rfl (by first | omega | (simp only[ai,au,aF]; omega))) ?_
   refine w_ ?_
   refine Qd ?_
   refine lK_ (hno.step hx13 (ay (by assumption))) ?_
   exact Wk.of [] rfl ⟨rfl,rfl,rfl,rfl,rfl,trivial⟩ ⟨rfl,rfl,rfl,rfl,rfl,rfl,trivial⟩ rfl rfl
  ·have hb14':=ae hb14
   iterate 5 refine w_ ?_
   refine Qb ?_
   have e15:((k:Int):Int)=(trI b word):=by
    exact Qlh hno hxz (by assumption)
   exact fi_ [] hO ⟨(((congrArg (fun z_=>some (Ent.box 274 [dI z_, .ref 3, .ref 1, .ref 4,dS b.1.2.2.2, .ref 2, .ref 5])) (show (b.1.1.1:Int)=(Zi b word).1.1.1 by (rw[Wf (YB hxz (by assumption))]; done)))).trans (congrArg (fun z_=>some (Ent.box 274 [dI ((Zi b word).1.1.1), .ref 3, .ref 1, .ref 4,dS z_, .ref 2, .ref 5])) (show (b.1.2.2.2:ByteArray)=(Zi b word).1.2.2.2 by (rw[Wf (YB hxz (by assumption))]; done)))),(Qn (by (rw[Wf (YB hxz (by assumption))]; done))),(Qn (by (rw[Wf (YB hxz (by assumption))]; done))),(Qn (by (rw[Wf (YB hxz (by assumption))]; done))),(Qn (by (rw[Wf (YB hxz (by assumption))]; done))),(Qn (by (rw[Wf (YB hxz (by assumption))]; done))),trivial⟩ (h0:=(congrArg (fun z_=>lI z_) e15))
end Go.Proofs.YtfkmmpfdncopdaaGreat
namespace Go.Proofs.YtfkmmpfdncopdaaGreat
open Go.RowKit
set_option maxRecDepth 100000
set_option maxHeartbeats 4000000
section
variable {text tx fr to_ nm:ByteArray}{c c0:UInt8}{b b1:DB}{p:Int}
theorem QpS (h:okA text=true):1≤text.size∧2≤(Zw (Ki text) 62).length∧(1≤(Y2 text 0).size∧(b0 (Y2 text 0)=95∨1≤(Jq (Y2 text 0)).size))∧1≤(Y2 text 1).size∧(b0 (Y2 text 1)=95∨1≤(Jq (Y2 text 1)).size):=by
  unfold okA okW at h
  simp only[aL,bS,aV] at h
  exact ⟨h.1,h.2.1,h.2.2.1,h.2.2.2⟩
theorem Xr (hc:text[(0:Int).toNat]? =some c):b0 text=c:=by unfold b0; rw[show text[0]? =some c from hc]; rfl
theorem Qrx (hc:text[(0:Int).toNat]? =some c)(h:c=42):text.extract (1:Int).toNat text.size=Ki text:=by unfold Ki; rw[Xr hc,if_pos h]; rfl
theorem QrD (hc:text[(0:Int).toNat]? =some c)(h:¬c=42):text=Ki text:=by unfold Ki; rw[Xr hc,if_neg h]
theorem Yr {k:Nat}(hx:tx=Ki text)(h:(Zw tx 62)[k]? =some fr):Y2 text k=fr:=by unfold Y2; rw[← hx,h]; rfl
theorem Qpr (h1:Y2 text 1=to_)(hc:to_[(0:Int).toNat]? =some c)(h:c=95):to_=Jg text:=by unfold Jg; rw[h1,Xr hc,if_pos h]
theorem QrV (h1:Y2 text 1=to_)(hc:to_[(0:Int).toNat]? =some c)(h:¬c=95)(h0:Y2 text 0=fr)(hc0:fr[(0:Int).toNat]? =some c0)(h2:c0=95):fr=Jg text:=by unfold Jg; rw[h1,Xr hc,if_neg h,h0,Xr hc0,if_pos h2]
theorem QrI (h1:Y2 text 1=to_)(hc:to_[(0:Int).toNat]? =some c)(h:¬c=95)(h0:Y2 text 0=fr)(hc0:fr[(0:Int).toNat]? =some c0)(h2:¬c0=95)(hx:tx=Ki text):tx=Jg text:=by unfold Jg; rw[h1,Xr hc,if_neg h,h0,Xr hc0,if_neg h2,hx]
theorem Qsj (h0:Y2 text 0=fr)(hc0:fr[(0:Int).toNat]? =some c0)(h:c0=95):b=ar1 p b text:=by unfold ar1; rw[h0,Xr hc0,if_pos h]
theorem Qrp (h0:Y2 text 1=to_)(hc0:to_[(0:Int).toNat]? =some c0)(h:c0=95):b=ar2 p b text:=by unfold ar2; rw[h0,Xr hc0,if_pos h]
theorem QsG (h0:Y2 text 0=fr)(hc0:fr[(0:Int).toNat]? =some c0)(h:¬c0=95):((((Zi b fr).1.1.1,QbP (Zi b fr).1.1.2 (trI b fr) p),(Zi b fr).1.2.1,(Zi b fr).1.2.2.1,(Zi b fr).1.2.2.2),(Zi b fr).2.1,(Zi b fr).2.2)=ar1 p b text:=by unfold ar1; rw[h0,Xr hc0,if_neg h]
theorem Qsg (h0:Y2 text 1=to_)(hc0:to_[(0:Int).toNat]? =some c0)(h:¬c0=95):((((Zi b to_).1.1.1,Qa8 (Zi b to_).1.1.2 (trI b to_) p),(Zi b to_).1.2.1,(Zi b to_).1.2.2.1,(Zi b to_).1.2.2.2),(Zi b to_).2.1,(Zi b to_).2.2)=ar2 p b text:=by unfold ar2; rw[h0,Xr hc0,if_neg h]
theorem Qeu {k:Nat}(hx:tx=Ki text)(hf:(Zw tx 62)[k]? =some fr)(hs:text.size≤1000)(ho:b0 (Y2 text k)=95∨1≤(Jq (Y2 text k)).size)(hc:fr[(0:Int).toNat]? =some c)(h:¬c=95):fr.size≤1000∧1≤(Jq fr).size:=by
  have h1:=Jb (ap hf)
  have h2:(Ki text).size≤text.size:=by unfold Ki; split; simp only[aS]; omega; exact aO _
  rw[Yr hx hf,Xr hc] at ho
  rw[hx] at h1
  exact ⟨by omega,ho.resolve_left h⟩
theorem Qie {b2:DB}(hc:text[(0:Int).toNat]? =some c)(h:¬c=42)(hm:nm=Jg text)(h1:b1=ar1 (plI b nm) (plV b nm) text)(h2:b2=ar2 (plI b nm) b1 text):arV b text=b2:=by
  rw[h2,h1,hm]; unfold arV; dsimp only; rw[Xr hc,if_neg h]
theorem Qhe {b2:DB}(hc:text[(0:Int).toNat]? =some c)(h:c=42)(hm:nm=Jg text)(h1:b1=ar1 (plI b nm) (plV b nm) text)(h2:b2=ar2 (plI b nm) b1 text):arV b text=((b2.1.1,b2.1.2.1,b2.1.2.2.1,Qlr b2.1.2.2.2 (plI b nm)),b2.2.1,b2.2.2):=by
  rw[h2,h1,hm]; unfold arV; dsimp only; rw[Xr hc,if_pos h]
theorem Qne:(Ki text).size≤text.size:=by unfold Ki; split; simp only[aS]; omega; exact aO _
end
theorem Qay (b:DB)(text:ByteArray)(n_:Nat)(hI:DBJ b n_ (2*n_) (2*n_))(hn:n_≤1000)(ht:okA text=true)(hs:text.size≤1000):FC Tryz.prog 260 [(false,[.ptr 0 0]),(false,[dS text])] [bx 0 274 [dI b.1.1.1, .ref 2, .ref 1, .ref 3,dS b.1.2.2.2, .ref 4, .ref 5],ar 2 237 (.pr (.sl 3 .int) (.sl 3 .int)) b.1.1.2,ar 1 203 (.pr .str .int) b.1.2.1,ar 3 120 (.pr .int .bool) b.1.2.2.1,ar 4 9 .str b.2.1,ar 5 9 .str b.2.2] 2 (Is (PV.tup []) [bx 0 274 [dI ((arV b text).1.1.1), .ref 2, .ref 1, .ref 3,dS ((arV b text).1.2.2.2), .ref 4, .ref 5],ar 2 237 (.pr (.sl 3 .int) (.sl 3 .int)) ((arV b text).1.1.2),ar 1 203 (.pr .str .int) ((arV b text).1.2.1),ar 3 120 (.pr .int .bool) ((arV b text).1.2.2.1),ar 4 9 .str ((arV b text).2.1),ar 5 9 .str ((arV b text).2.2)]):=by
 obtain ⟨ho1,ho2,⟨ho3,ho4⟩,ho5,ho6⟩:=QpS ht
 have hbs:=Qne (text:=text)
 have hi0:=hI.p0
 have hi1:=hI.pl
 have hi2:=hI.st
 have hi3:=hI.tr
 have hi4:=hI.la
 have hi5:=hI.ws
 refine Ql Tryz.func260 rfl rfl Tryz.ntmps260 fun O_ hO w0_ N0_ X_ h0_ f0_=> ?_
 iterate 2 refine w_ ?_
 obtain ⟨tc,hc2⟩:∃z,text[(0:Int).toNat]? =some z:=⟨_,aY _ _ (by omega)⟩
 have htc:=hc2
 refine w_ ?_
 refine lc (Zm (Qa rfl) (QG 42 rfl) rfl) ?_
 iterate 2 refine w_ ?_
 refine QbB (fun s_=>∃(tx:ByteArray),(tx=Ki text)∧s_=⟨[(0,lP 0 0),(1,lf (dS tx)),(4,lB (decide (tc=42)))],[bx 0 274 [dI b.1.1.1, .ref 2, .ref 1, .ref 3,dS b.1.2.2.2, .ref 4, .ref 5],ar 1 203 (.pr .str .int) b.1.2.1,ar 2 237 (.pr (.sl 3 .int) (.sl 3 .int)) b.1.1.2,ar 3 120 (.pr .int .bool) b.1.2.2.1,ar 4 9 .str b.2.1,ar 5 9 .str b.2.2]⟩) ?_ fun J3=> ?_
 ·rintro s_ ⟨tx,hx,rfl⟩
  have hx2:2≤(Zw tx 62).length:=by rw[hx]; exact ho2
  iterate 2 refine w_ ?_
  refine lc (U3 (XZ tx 62 (by rw[hx]; omega)).frozen Jd ⟨_,_,rfl,(Qm rfl),⟨_,_,rfl,(Evl.ev (QG 62 rfl)),rfl⟩⟩ rfl rfl) ?_
  iterate 2 refine w_ ?_
  obtain ⟨fr,hx5⟩:∃z,(Zw tx 62)[0]? =some z:=⟨_,aa (by omega)⟩
  have hfr:=hx5
  have hsfr:1≤fr.size:=by first | (rw[← Yr (k:=0) hx hx5]; exact ho3) | (rw[← Yr (k:=1) hx hx5]; exact ho5)
  obtain ⟨to_,hx7⟩:∃z,(Zw tx 62)[1]? =some z:=⟨_,aa (by omega)⟩
  have hto_:=hx7
  have hsto_:1≤to_.size:=by first | (rw[← Yr (k:=0) hx hx7]; exact ho3) | (rw[← Yr (k:=1) hx hx7]; exact ho5)
  apply dW (i6 20 _ _ _ _ _ _ (i2 6 _ _ [])) [0,0,0,7,7,7,56,0]
  iterate 8 refine z_ ?_
  exact zN
  refine Qnv (fun s_=>∃(nm:ByteArray),(nm=Jg text)∧s_=⟨[(0,lP 0 0),(4,lB (decide (tc=42))),(6,lf (dS fr)),(7,lf (dS to_)),(8,lf (dS nm))],[bx 0 274 [dI b.1.1.1, .ref 2, .ref 1, .ref 3,dS b.1.2.2.2, .ref 4, .ref 5],ar 1 203 (.pr .str .int) b.1.2.1,ar 2 237 (.pr (.sl 3 .int) (.sl 3 .int)) b.1.1.2,ar 3 120 (.pr .int .bool) b.1.2.2.1,ar 4 9 .str b.2.1,ar 5 9 .str b.2.2]⟩) ?_ fun J8=> ?_
  ·rintro s_ ⟨nm,hm,rfl⟩
   have hk:=hI.pl_ (name:=nm)
   have hk1:=hk.tr
   have hk2:=hk.la
   have hk3:=hk.ws
   have hpr:=QiW (b:=b) (name:=nm)
   iterate 3 refine w_ ?_
   refine lc (dP 6 [(1,2),(2,1),(4,5),(5,4)] (J1 b nm (by omega) (by omega)) QgQ) ?_
   iterate 2 refine w_ ?_
   refine QbB (fun s_=>∃(b1:((Int×(List (List Int×List Int)))×(List (ByteArray×Int))×(List (Int×Bool))×ByteArray)×List ByteArray×List ByteArray),(b1=ar1 (plI b nm) (plV b nm) text)∧s_=⟨[(0,lP 0 0),(4,lB (decide (tc=42))),(7,lf (dS to_)),(9,lI (plI b nm))],[bx 0 274 [dI b1.1.1.1, .ref 12, .ref 1, .ref 13,dS b1.1.2.2.2, .ref 14, .ref 15],ar 1 203 (.pr .str .int) b1.1.2.1,ar 12 237 (.pr (.sl 3 .int) (.sl 3 .int)) b1.1.1.2,ar 13 120 (.pr .int .bool) b1.1.2.2.1,ar 14 9 .str b1.2.1,ar 15 9 .str b1.2.2]⟩) ?_ fun J9=> ?_
   ·rintro s_ ⟨b1,hb1,rfl⟩
    have hI1:DBJ b1 (n_+1) (2*n_+1) (2*n_+1):=by rw[hb1]; exact hk.ar1_
    have hj1:=hI1.tr
    have hj2:=hI1.la
    have hj3:=hI1.ws
    refine QbB (fun s_=>∃(b2:((Int×(List (List Int×List Int)))×(List (ByteArray×Int))×(List (Int×Bool))×ByteArray)×List ByteArray×List ByteArray),(b2=ar2 (plI b nm) b1 text)∧s_=⟨[(0,lP 0 0),(4,lB (decide (tc=42))),(9,lI (plI b nm))],[bx 0 274 [dI b2.1.1.1, .ref 16, .ref 1, .ref 17,dS b2.1.2.2.2, .ref 18, .ref 19],ar 1 203 (.pr .str .int) b2.1.2.1,ar 16 237 (.pr (.sl 3 .int) (.sl 3 .int)) b2.1.1.2,ar 17 120 (.pr .int .bool) b2.1.2.2.1,ar 18 9 .str b2.2.1,ar 19 9 .str b2.2.2]⟩) ?_ fun J10=> ?_
    ·rintro s_ ⟨b2,hb2,rfl⟩
     have hI2:DBJ b2 (n_+1) (2*n_+2) (2*n_+2):=by rw[hb2]; exact hI1.ar2_
     have hst2:=hI2.st
     have hpl2:b2.2.1=(plV b nm).2.1:=by rw[hb2,Qnt,hb1,Qnc]
     rw[hpl2] at hst2
     have hkp:=hk.pl
     iterate 3 refine w_ ?_
     refine cd_ (fun hb11 hb11'=> ?_) fun hb11 hb11'=> ?_
     ·refine AC.skip ?_
      refine (?_:fin _ _ _ _ .normal _)
      exact fi_ [(2,16),(3,17),(4,18),(5,19)] hO ⟨(((congrArg (fun z_=>some (Ent.box 274 [dI z_, .ref 16, .ref 1, .ref 17,dS b2.1.2.2.2, .ref 18, .ref 19])) (show (b2.1.1.1:Int)=(arV b text).1.1.1 by (rw[Qie htc (by assumption) hm hb1 hb2]; done)))).trans (congrArg (fun z_=>some (Ent.box 274 [dI ((arV b text).1.1.1), .ref 16, .ref 1, .ref 17,dS z_, .ref 18, .ref 19])) (show (b2.1.2.2.2:ByteArray)=(arV b text).1.2.2.2 by (rw[Qie htc (by assumption) hm hb1 hb2]; done)))),(Qn (by (rw[Qie htc (by assumption) hm hb1 hb2]; done))),(Qn (by (rw[Qie htc (by assumption) hm hb1 hb2]; done))),(Qn (by (rw[Qie htc (by assumption) hm hb1 hb2]; done))),(Qn (by (rw[Qie htc (by assumption) hm hb1 hb2]; done))),(Qn (by (rw[Qie htc (by assumption) hm hb1 hb2]; done))),trivial⟩
     ·apply dV (i7 93 _ _ _ _ _ _ _ (io 100 (lf (dS (b2.1.2.2.2.extract 0 (plI b nm).toNat))) :: io 101 (lf (dS ((b2.1.2.2.2.extract 0 (plI b nm).toNat)++(⟨#[49]⟩:ByteArray)))) :: i7 102 _ _ _ _ _ _ _ (io 109 (lf (dS (b2.1.2.2.2.extract ((plI b nm)+1).toNat b2.1.2.2.2.size))) :: io 110 (lf (dS (((b2.1.2.2.2.extract 0 (plI b nm).toNat)++(⟨#[49]⟩:ByteArray))++(b2.1.2.2.2.extract ((plI b nm)+1).toNat b2.1.2.2.2.size)))) :: i3 111 _ _ _ [⟨none,lf (.val undef),[bx 0 274 [dI b2.1.1.1, .ref 16, .ref 1, .ref 17,dS (((b2.1.2.2.2.extract 0 (plI b nm).toNat)++(⟨#[49]⟩:ByteArray))++(b2.1.2.2.2.extract ((plI b nm)+1).toNat b2.1.2.2.2.size)), .ref 18, .ref 19]]⟩]))) [0,1,1,1,1,1,63,1,1,511,511,511,511,511,16383,16383,511,1,0,0,0,0]
      iterate 7 refine z_ ?_
      refine zz (fun _ h_=>ac (show Does _ _ _ _ (St.put _ 100 (lf (dS (b2.1.2.2.2.extract 0 (plI b nm).toNat)))) from QW (l:=none) (h:=(some (plI b nm))) (h_.v rfl) (by exact trivial) (by exact (h_.v rfl)) Zc rfl (by first | omega | (simp only[ak,aj]; omega)) (by first | omega | (simp only[ak,aj]; omega)) (by first | omega | (simp only[ak,aj]; omega))) rfl)<|zz (fun _ h_=>ac (Q3 (h_.v rfl) (Evl.str rfl) rfl (by (simp only[aN,aS,Ya]; omega))) rfl) ?_
      iterate 7 refine z_ ?_
      refine zz (fun _ h_=>ac (show Does _ _ _ _ (St.put _ 109 (lf (dS (b2.1.2.2.2.extract ((plI b nm)+1).toNat b2.1.2.2.2.size)))) from QW (l:=(some ((plI b nm)+1))) (h:=none) (h_.v rfl) (by exact (h_.v rfl)) (by exact trivial) Zc rfl (by first | omega | (simp only[ak,aj]; omega)) (by first | omega | (simp only[ak,aj]; omega)) (by first | omega | (simp only[ak,aj]; omega))) rfl)<|zz (fun _ h_=>ac (Q3 (h_.v rfl) (h_.v rfl) rfl (by (simp only[aN,aS,Ya]; omega))) rfl) ?_
      iterate 4 refine z_ ?_
      exact zN
      refine (?_:fin _ _ _ _ .normal _)
      exact fi_ [(2,16),(3,17),(4,18),(5,19)] hO ⟨(((congrArg (fun z_=>some (Ent.box 274 [dI z_, .ref 16, .ref 1, .ref 17,dS (((b2.1.2.2.2.extract 0 (plI b nm).toNat)++(⟨#[49]⟩:ByteArray))++(b2.1.2.2.2.extract ((plI b nm)+1).toNat b2.1.2.2.2.size)), .ref 18, .ref 19])) (show (b2.1.1.1:Int)=(arV b text).1.1.1 by (rw[Qhe htc (by assumption) hm hb1 hb2]; done)))).trans (congrArg (fun z_=>some (Ent.box 274 [dI ((arV b text).1.1.1), .ref 16, .ref 1, .ref 17,dS z_, .ref 18, .ref 19])) (show (((b2.1.2.2.2.extract 0 (plI b nm).toNat)++(⟨#[49]⟩:ByteArray))++(b2.1.2.2.2.extract ((plI b nm)+1).toNat b2.1.2.2.2.size):ByteArray)=(arV b text).1.2.2.2 by (rw[Qhe htc (by assumption) hm hb1 hb2]; rfl)))),(Qn (by (rw[Qhe htc (by assumption) hm hb1 hb2]; done))),(Qn (by (rw[Qhe htc (by assumption) hm hb1 hb2]; done))),(Qn (by (rw[Qhe htc (by assumption) hm hb1 hb2]; done))),(Qn (by (rw[Qhe htc (by assumption) hm hb1 hb2]; done))),(Qn (by (rw[Qhe htc (by assumption) hm hb1 hb2]; done))),trivial⟩
    ·iterate 3 refine w_ ?_
     obtain ⟨tc2,hc13⟩:∃z,to_[(0:Int).toNat]? =some z:=⟨_,aY _ _ (by omega)⟩
     have htc2:=hc13
     refine w_ ?_
     refine lc (QD (Qa rfl) (QG 95 rfl) rfl) ?_
     refine w_ ?_
     refine cn_ (fun hb14 hb14'=> ?_) fun hb14 hb14'=> ?_
     ·refine w_ ?_
      refine QcV (J10 _ ⟨b1,(by exact Qrp (Yr hx hto_) htc2 (by assumption)),rfl⟩) ?_
      exact Wk.of [(16,12),(17,13),(18,14),(19,15)] rfl ⟨rfl,rfl,rfl,trivial⟩ ⟨rfl,rfl,rfl,rfl,rfl,rfl,trivial⟩ rfl rfl
     ·iterate 3 refine w_ ?_
      refine lc (dP 20 [(2,14),(3,12),(4,13),(5,15)] (WL b1 to_ (by first | exact Qeu hx hfr hs ho4 hfc (by assumption) | exact Qeu hx hto_ hs ho6 htc2 (by assumption)) (by omega)) QbD) ?_
      iterate 2 refine w_ ?_
      have hkI:=hI1.tr_ (word:=to_)
      have hkt:=hkI.tr
      have hkr:=Qiy (b:=b1) (word:=to_)
      obtain ⟨y,hy⟩:∃z,((Zi b1 to_).1.1.2)[(trI b1 to_).toNat]? =some z:=⟨_,aa (by omega)⟩
      have hc:=(Qfz hy).2
      have hyi:=hkI.inn y (ap hy)
      have hpp:(trI b1 to_).toNat*2+0 < (Q9 (.pr (.sl 3 .int) (.sl 3 .int)) ((Zi b1 to_).1.1.2)).length:=by rw[VS]; exact Qtl (by omega)
      refine AC.wk (Qen (q:=23) rfl (by omega))<|AC.wk (HQ 26 (q:=23) (p:=(trI b1 to_).toNat*2+0) (E':=3) (e':= .int) (ys:=y.1) rfl (hc) (Fresh.of rfl) (aG rfl)) ?_
      apply dZ (i9 71 _ _ _ _ _ _ _ _ _ (i5 80 _ _ _ _ _ [io 85 (lf (.ept 23 2 ((trI b1 to_).toNat) 0)),io 86 (lf (.ept 23 2 ((trI b1 to_).toNat) 0)),io 87 (lR 26),io 88 _,⟨some 89,lR 27,[ar 27 3 .int (QN ltI (plI b nm) y.1),(26,none)]⟩,io 90 (lf (.ept 23 2 ((trI b1 to_).toNat) 0)),io 91 (lf (.ept 23 2 ((trI b1 to_).toNat) 0)),⟨none,lf (.val undef),[(23,some (.obx 237 2 (((Zi b1 to_).1.1.2).length) (Q9 (.pr (.sl 3 .int) (.sl 3 .int)) ((Zi b1 to_).1.1.2)) [((trI b1 to_).toNat*2+0, .ref 27),((trI b1 to_).toNat*2+0, .ref 26)]))]⟩])) [0,0,0,0,0,0,63,127,127,127,127,127,127,8191,127,127,127,131071,127,0,0,0]
      iterate 14 refine z_ ?_
      refine zz (fun _ h_=>ac (Xh (h_.v rfl) (h_.en 23 rfl) (h_.v rfl) HT UZ rfl (by omega) (by omega)) rfl)<|zz (fun _ h_=>ac (Ym (h_.v rfl) Qc9 (by rw[(h_.en 23 rfl)]; rfl) rfl) rfl) ?_
      refine zz (fun _ h_=>ac (KQ (h_.v rfl) (h_.en 23 rfl) (by simp only[ovr,bz,aD,hpp,hc,eq_self,if_true,if_false,↓reduceIte]) (h_.en 26 rfl) Uo rfl) rfl) ?_
      refine z_ ?_
      refine zz (fun _ h_=>ac (dP 27 [(0,26)] (Kz y.1 (plI b nm) (by omega)) Qbx) rfl) ?_
      refine zz (fun _ h_=>ac (Xh (h_.v rfl) (h_.en 23 rfl) (h_.v rfl) HT UZ rfl (by omega) (by omega)) rfl)<|zz (fun _ h_=>ac (Ym (h_.v rfl) Qc9 (by rw[(h_.en 23 rfl)]; rfl) rfl) rfl) ?_
      refine zz (fun _ h_=>ac (Ur (t:=26) (h_.v rfl) (h_.en 23 rfl) (by simp only[ovr,bz,aD,hpp,hc,eq_self,if_true,if_false,↓reduceIte]) (h_.v rfl) (h_.en 27 rfl) Uo) rfl) ?_
      exact zN
      refine QcV (J10 _ ⟨((((Zi b1 to_).1.1.1,Qa8 ((Zi b1 to_).1.1.2) (trI b1 to_) (plI b nm)),(Zi b1 to_).1.2.1,(Zi b1 to_).1.2.2.1,(Zi b1 to_).1.2.2.2),(Zi b1 to_).2.1,(Zi b1 to_).2.2),(by exact Qsg (Yr hx hto_) htc2 (by assumption)),rfl⟩) ?_
      refine Wk.trans (Qbl (q:=23) (t:=27) (p:=(trI b1 to_).toNat*2+0) rfl (by simp only[ovr,bz,aD,hpp,hc,eq_self,if_true,if_false,↓reduceIte]) rfl) ?_
      refine Wk.trans (QbQ (q:=23) (e:=(.pr (.sl 3 .int) (.sl 3 .int))) (Qa8 ((Zi b1 to_).1.1.2) (trI b1 to_) (plI b nm)) rfl (by simp[Qa8]) (by simp only[ovr]; rw[dl,dl,Qio hy,Qkk hy])) ?_
      exact Wk.of [(16,23),(17,24),(18,14),(19,25)] rfl ⟨rfl,rfl,rfl,trivial⟩ ⟨rfl,(Qn (by first | rfl | simp)),(Qn (by first | rfl | simp)),(Qn (by first | rfl | simp)),(Qn (by first | rfl | simp)),(Qn (by first | rfl | simp)),trivial⟩ rfl rfl
   ·iterate 3 refine w_ ?_
    obtain ⟨fc,hc16⟩:∃z,fr[(0:Int).toNat]? =some z:=⟨_,aY _ _ (by omega)⟩
    have hfc:=hc16
    refine w_ ?_
    refine lc (QD (Qa rfl) (QG 95 rfl) rfl) ?_
    refine w_ ?_
    refine cn_ (fun hb17 hb17'=> ?_) fun hb17 hb17'=> ?_
    ·refine w_ ?_
     refine QcV (J9 _ ⟨(plV b nm),(by exact Qsj (Yr hx hfr) hfc (by assumption)),rfl⟩) ?_
     exact Wk.of [(12,2),(13,3),(14,11),(15,5)] rfl ⟨rfl,rfl,rfl,rfl,trivial⟩ ⟨rfl,rfl,rfl,rfl,rfl,rfl,trivial⟩ rfl rfl
    ·iterate 3 refine w_ ?_
     refine lc (dP 28 [(2,11),(3,2),(4,3)] (WL (plV b nm) fr (by first | exact Qeu hx hfr hs ho4 hfc (by assumption) | exact Qeu hx hto_ hs ho6 htc2 (by assumption)) (by omega)) QbD) ?_
     iterate 2 refine w_ ?_
     have hkI:=hk.tr_ (word:=fr)
     have hkt:=hkI.tr
     have hkr:=Qiy (b:=plV b nm) (word:=fr)
     obtain ⟨y,hy⟩:∃z,((Zi (plV b nm) fr).1.1.2)[(trI (plV b nm) fr).toNat]? =some z:=⟨_,aa (by omega)⟩
     have hc:=(Qfz hy).1
     have hyi:=hkI.inn y (ap hy)
     have hpp:(trI (plV b nm) fr).toNat*2+1 < (Q9 (.pr (.sl 3 .int) (.sl 3 .int)) ((Zi (plV b nm) fr).1.1.2)).length:=by rw[VS]; exact QtH (by omega)
     refine AC.wk (Qen (q:=31) rfl (by omega))<|AC.wk (HQ 34 (q:=31) (p:=(trI (plV b nm) fr).toNat*2+1) (E':=3) (e':= .int) (ys:=y.2) rfl (hc) (Fresh.of rfl) (aG rfl)) ?_
     apply dZ (i9 44 _ _ _ _ _ _ _ _ _ (i5 53 _ _ _ _ _ [io 58 (lf (.ept 31 2 ((trI (plV b nm) fr).toNat) 0)),io 59 (lf (.ept 31 2 ((trI (plV b nm) fr).toNat) 1)),io 60 (lR 34),io 61 _,⟨some 62,lR 35,[ar 35 3 .int (QN ltI (plI b nm) y.2),(34,none)]⟩,io 63 (lf (.ept 31 2 ((trI (plV b nm) fr).toNat) 0)),io 64 (lf (.ept 31 2 ((trI (plV b nm) fr).toNat) 1)),⟨none,lf (.val undef),[(31,some (.obx 237 2 (((Zi (plV b nm) fr).1.1.2).length) (Q9 (.pr (.sl 3 .int) (.sl 3 .int)) ((Zi (plV b nm) fr).1.1.2)) [((trI (plV b nm) fr).toNat*2+1, .ref 35),((trI (plV b nm) fr).toNat*2+1, .ref 34)]))]⟩])) [0,0,0,0,0,0,63,127,127,127,127,127,127,8191,127,127,127,131071,127,0,0,0]
     iterate 14 refine z_ ?_
     refine zz (fun _ h_=>ac (Xh (h_.v rfl) (h_.en 31 rfl) (h_.v rfl) HT UZ rfl (by omega) (by omega)) rfl)<|zz (fun _ h_=>ac (Ym (h_.v rfl) Qdk (by rw[(h_.en 31 rfl)]; rfl) rfl) rfl) ?_
     refine zz (fun _ h_=>ac (KQ (h_.v rfl) (h_.en 31 rfl) (by simp only[ovr,bz,aD,hpp,hc,eq_self,if_true,if_false,↓reduceIte]) (h_.en 34 rfl) Uo rfl) rfl) ?_
     refine z_ ?_
     refine zz (fun _ h_=>ac (dP 35 [(0,34)] (Kz y.2 (plI b nm) (by omega)) Qbx) rfl) ?_
     refine zz (fun _ h_=>ac (Xh (h_.v rfl) (h_.en 31 rfl) (h_.v rfl) HT UZ rfl (by omega) (by omega)) rfl)<|zz (fun _ h_=>ac (Ym (h_.v rfl) Qdk (by rw[(h_.en 31 rfl)]; rfl) rfl) rfl) ?_
     refine zz (fun _ h_=>ac (Ur (t:=34) (h_.v rfl) (h_.en 31 rfl) (by simp only[ovr,bz,aD,hpp,hc,eq_self,if_true,if_false,↓reduceIte]) (h_.v rfl) (h_.en 35 rfl) Uo) rfl) ?_
     exact zN
     refine QcV (J9 _ ⟨((((Zi (plV b nm) fr).1.1.1,QbP ((Zi (plV b nm) fr).1.1.2) (trI (plV b nm) fr) (plI b nm)),(Zi (plV b nm) fr).1.2.1,(Zi (plV b nm) fr).1.2.2.1,(Zi (plV b nm) fr).1.2.2.2),(Zi (plV b nm) fr).2.1,(Zi (plV b nm) fr).2.2),(by exact QsG (Yr hx hfr) hfc (by assumption)),rfl⟩) ?_
     refine Wk.trans (Qbl (q:=31) (t:=35) (p:=(trI (plV b nm) fr).toNat*2+1) rfl (by simp only[ovr,bz,aD,hpp,hc,eq_self,if_true,if_false,↓reduceIte]) rfl) ?_
     refine Wk.trans (QbQ (q:=31) (e:=(.pr (.sl 3 .int) (.sl 3 .int))) (QbP ((Zi (plV b nm) fr).1.1.2) (trI (plV b nm) fr) (plI b nm)) rfl (by simp[QbP]) (by simp only[ovr]; rw[dl,dl,Qhs hy,Qkg hy])) ?_
     exact Wk.of [(12,31),(13,32),(14,11),(15,33)] rfl ⟨rfl,rfl,rfl,rfl,trivial⟩ ⟨rfl,(Qn (by first | rfl | simp)),(Qn (by first | rfl | simp)),(Qn (by first | rfl | simp)),(Qn (by first | rfl | simp)),(Qn (by first | rfl | simp)),trivial⟩ rfl rfl
  ·iterate 7 refine w_ ?_
   obtain ⟨fc,hc19⟩:∃z,fr[(0:Int).toNat]? =some z:=⟨_,aY _ _ (by omega)⟩
   have hfc:=hc19
   refine w_ ?_
   refine lc (Zm (Qa rfl) (QG 95 rfl) rfl) ?_
   refine w_ ?_
   refine cd_ (fun hb20 hb20'=> ?_) fun hb20 hb20'=> ?_
   ·iterate 4 refine w_ ?_
    obtain ⟨tc2,hc22⟩:∃z,to_[(0:Int).toNat]? =some z:=⟨_,aY _ _ (by omega)⟩
    have htc2:=hc22
    refine w_ ?_
    refine lc (Zm (Qa rfl) (QG 95 rfl) rfl) ?_
    refine w_ ?_
    refine cd_ (fun hb23 hb23'=> ?_) fun hb23 hb23'=> ?_
    ·refine w_ ?_
     refine QcV (J8 _ ⟨tx,(by exact QrI (Yr hx hto_) htc2 (by assumption) (Yr hx hfr) hfc (by assumption) hx),rfl⟩) ?_
     exact Wk.of [] rfl ⟨rfl,rfl,rfl,rfl,rfl,trivial⟩ ⟨rfl,rfl,rfl,rfl,rfl,rfl,trivial⟩ rfl rfl
    ·iterate 4 refine w_ ?_
     refine QcV (J8 _ ⟨to_,(by exact Qpr (Yr hx hto_) htc2 (by assumption)),rfl⟩) ?_
     exact Wk.of [] rfl ⟨rfl,rfl,rfl,rfl,rfl,trivial⟩ ⟨rfl,rfl,rfl,rfl,rfl,rfl,trivial⟩ rfl rfl
   ·iterate 7 refine w_ ?_
    obtain ⟨tc2,hc25⟩:∃z,to_[(0:Int).toNat]? =some z:=⟨_,aY _ _ (by omega)⟩
    have htc2:=hc25
    refine w_ ?_
    refine lc (Zm (Qa rfl) (QG 95 rfl) rfl) ?_
    refine w_ ?_
    refine cd_ (fun hb26 hb26'=> ?_) fun hb26 hb26'=> ?_
    ·refine w_ ?_
     refine QcV (J8 _ ⟨fr,(by exact QrV (Yr hx hto_) htc2 (by assumption) (Yr hx hfr) hfc (by assumption)),rfl⟩) ?_
     exact Wk.of [] rfl ⟨rfl,rfl,rfl,rfl,rfl,trivial⟩ ⟨rfl,rfl,rfl,rfl,rfl,rfl,trivial⟩ rfl rfl
    ·iterate 4 refine w_ ?_
     refine QcV (J8 _ ⟨to_,(by exact Qpr (Yr hx hto_) htc2 (by assumption)),rfl⟩) ?_
     exact Wk.of [] rfl ⟨rfl,rfl,rfl,rfl,rfl,trivial⟩ ⟨rfl,rfl,rfl,rfl,rfl,rfl,trivial⟩ rfl rfl
 ·iterate 4 refine w_ ?_
  cases hb27:(decide (tc=42))
  ·have hb27':=ab hb27
   iterate 2 refine w_ ?_
   refine QcV (J3 _ ⟨text,(by exact QrD htc (by assumption)),rfl⟩) ?_
   exact Wk.of [] rfl ⟨rfl,rfl,(congrArg (fun z_=>some (lB z_)) ((hb27).symm)),trivial⟩ ⟨rfl,rfl,rfl,rfl,rfl,rfl,trivial⟩ rfl rfl
  ·have hb27':=ae hb27
   iterate 3 refine w_ ?_
   refine lc (show Does _ _ _ _ (St.put _ 17 (lf (dS (text.extract (1:Int).toNat text.size)))) from QW (l:=(some 1)) (h:=none) (Qa rfl) (by exact (Qo rfl)) (by exact trivial) Zc rfl (by first | omega | (simp only[ak,aj]; omega)) (by first | omega | (simp only[ak,aj]; omega)) (by first | omega | (simp only[ak,aj]; omega))) ?_
   iterate 2 refine w_ ?_
   refine QcV (J3 _ ⟨(text.extract (1:Int).toNat text.size),(by exact Qrx htc (by assumption)),rfl⟩) ?_
   exact Wk.of [] rfl ⟨rfl,rfl,(congrArg (fun z_=>some (lB z_)) ((hb27).symm)),trivial⟩ ⟨rfl,rfl,rfl,rfl,rfl,rfl,trivial⟩ rfl rfl
end Go.Proofs.YtfkmmpfdncopdaaGreat
