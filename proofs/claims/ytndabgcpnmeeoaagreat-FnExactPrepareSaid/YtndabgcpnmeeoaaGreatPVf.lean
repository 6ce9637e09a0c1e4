/- Walks over abstract states: a signal is put in, states are numbered. -/
import Derived.Test.YtndabgcpnmeeoaaGreatPVd
import Derived.DeepKeys3
set_option linter.unusedSimpArgs false
set_option linter.unusedVariables false
set_option linter.unusedSectionVars false
namespace Go.Proofs.YtndabgcpnmeeoaaGreat
open Go.RowKit
set_option maxRecDepth 100000
set_option maxHeartbeats 4000000
abbrev PSt:=Int×Bool
theorem QnW {n:Int}{b:Bool}(h: -9223372036854775808≤n∧n≤9223372036854775807):∃l,keyOf Tryz.prog 555 (.agg #[.int .i64 n, .bool b])=some l:=by
 have g:=Tryz.underlying555
 have k:Tryz.prog.keyType 555=true:=by kernel_rfl
 have j:Tryz.prog.cellsOf 555=2:=by kernel_rfl
 have e:Tryz.prog.cellsOf 3=1:=by kernel_rfl
 have f:Tryz.prog.cellsOf 4=1:=by kernel_rfl
 have m:Tryz.prog.types.size+1=(Tryz.prog.types.size - 1)+1+1:=by
  have:1≤Tryz.prog.types.size:=by exact ab (by kernel_rfl)
  omega
 have o:(Lit.int .i64 n).wf=true:=by simp[Lit.wf]; exact h
 have a:∃i,Tryz.prog.keyLits (Tryz.prog.types.size+1) 555 [.int .i64 n, .bool b]=some i:=by
  rw[m]
  generalize Tryz.prog.types.size - 1=d
  simp[Program.keyLits,g,j,e,f,Tryz.underlying3,Tryz.underlying4,o]
 obtain ⟨i,a⟩:=a
 refine ⟨.string (keyBytes i), ?_⟩
 unfold keyOf
 rw[g]
 generalize Tryz.prog.types.size+1=N at a ⊢
 simp[k,Value.formed,g,j,Value.cells,a]
theorem Qpf:KeyL Tryz.prog 555 true QF where
 K:=Maps.Keyed.of_law (deep_law (m:=3) (by omega) (by kernel_rfl) (by kernel_rfl) (by rw[Tryz.underlying555]))
 flat:=rfl
 rd:=fun v x ⟨cs,w,d,e⟩=>by
  obtain ⟨n,b⟩:=x
  obtain ⟨l,r,rfl,f,a⟩:=e
  obtain ⟨rfl,g⟩:=f
  have a:r=[.bool b]:=a
  subst d a
  exact QnW g
def ixP (ps:List PSt)(p:PSt):Int:=(ps.idxOf p:Nat)
def psP (ps:List PSt)(p:PSt):List PSt:=if p∈ps then ps else ps++[p]
def cdP (c:DSg)(ps:List PSt)(cs:List ByteArray)(p:PSt):List ByteArray:=if p∈ps then cs else cs++[Qft c p.1++⟨#[if p.2 then 49 else 48]⟩]
def Qjc:Nat→List PSt→List (PSt×Int)
 | _,[]=>[]
 | n,p :: ps=>(p,(n:Int)) :: Qjc (n+1) ps
def YV (ps:List PSt):List (PSt×Int):=Qjc 0 ps
section
variable {c:DSg}{ps:List PSt}{p:PSt}{cs:List ByteArray}{n:Nat}{code:ByteArray}
theorem Qsy:Yr QF (Qjc n ps) p=if p∈ps then some ((n:Int)+ixP ps p) else none:=by
 induction ps generalizing n with
 | nil=>rfl
 | cons q ps f=>
  rw[Qjc,Yr,f]
  by_cases e:q=p
  ·subst e
   rw[if_pos (Qkd QF q),if_pos (az ..)]
   simp[ixP]
  ·rw[if_neg (fun h=>e ((Ty.beq_iff QF q p).1 h))]
   have b:ixP (q :: ps) p=ixP ps p+1:=by
    simp only[ixP,List.idxOf_cons]
    rw[show (q==p)=false by simpa using e]
    simp
   have a:(p∈q :: ps)↔p∈ps:=by
    rw[aK]
    exact ⟨fun h=>h.resolve_left fun h=>e h.symm, .inr⟩
   by_cases h:p∈ps
   ·rw[if_pos h,if_pos (a.2 h),b]; congr 1; omega
   ·rw[if_neg h,if_neg (fun d=>h (a.1 d))]
theorem Qgn:Yr QF (YV ps) p=if p∈ps then some (ixP ps p) else none:=by
 have:=Qsy (n:=0) (ps:=ps) (p:=p)
 simpa [YV] using this
theorem Qsz (h:p∉ps):WC QF (Qjc n ps) p ((n:Int)+ps.length)=Qjc n (ps++[p]):=by
 induction ps generalizing n with
 | nil=>simp[Qjc,WC]
 | cons q ps d=>
  have a:¬q=p:=fun e=>h (by rw[e]; exact az ..)
  rw[Qjc,WC,if_neg (fun h=>a ((Ty.beq_iff QF q p).1 h)),ci,Qjc,← d fun b=>h (ay _ b)]
  rw[show (n:Int)+((q :: ps).length:Nat)=((n+1:Nat):Int)+(ps.length:Nat) by rw[au]; omega]
theorem Qn8 (h:(Yr QF (YV ps) p).isSome=true):p∈ps:=by
 rw[Qgn] at h
 by_cases e:p∈ps
 ·exact e
 ·rw[if_neg e] at h; cases h
theorem QeK (h:(Yr QF (YV ps) p).isSome=false):p∉ps:=fun e=>by
 rw[Qgn,if_pos e] at h; cases h
theorem Qwn (h:(Yr QF (YV ps) p).isSome=true):(Yr QF (YV ps) p).getD (Ty.zero .int)=ixP ps p:=by rw[Qgn,if_pos (Qn8 h)]; rfl
theorem Qs0 (h:(Yr QF (YV ps) p).isSome=true):ps=psP ps p:=(if_pos (Qn8 h)).symm
theorem Qwj (h:(Yr QF (YV ps) p).isSome=true):cs=cdP c ps cs p:=(if_pos (Qn8 h)).symm
theorem Qwl (h:(Yr QF (YV ps) p).isSome=true):YV ps=YV (psP ps p):=by rw[← Qs0 h]
theorem Qwm (h:(Yr QF (YV ps) p).isSome=false):(ps.length:Int)=ixP ps p:=by unfold ixP; rw[List.idxOf_eq_length (QeK h)]
theorem QsZ (h:(Yr QF (YV ps) p).isSome=false):ps++[p]=psP ps p:=(if_neg (QeK h)).symm
theorem Qwi (h:(Yr QF (YV ps) p).isSome=false)(a:c.2.1[p.1.toNat]? =some code):cs++[code++⟨#[if p.2 then 49 else 48]⟩]=cdP c ps cs p:=by
 unfold cdP
 rw[if_neg (QeK h),Vn a]
theorem Qwk (h:(Yr QF (YV ps) p).isSome=false):WC QF (YV ps) p (ps.length:Int)=YV (psP ps p):=by
 rw[← QsZ h]
 have:=Qsz (n:=0) (QeK h)
 simpa [YV] using this
theorem XZ:(psP ps p).length≤ps.length+1:=by unfold psP; split <;> simp
theorem XW:(cdP c ps cs p).length≤cs.length+1:=by unfold cdP; split <;> simp
end
theorem YQ (c:DSg)(b:ByteArray)(ss:List QM)(cs:List ByteArray)(as_:List DAr)(ps:List PSt)(p:JY)(y:0≤p.1∧p.1 < (c.2.1.length:Int))(o:∀x∈c.2.1,x.size≤1000)(t:ps.length≤1000000∧cs.length≤1000000):FC Tryz.prog 587 [(false,[.ptr 0 0]),(true,[dI p.1,dB p.2])] [bx 0 552 [.dat Ql c.1, .dat Qo c.2.1, .dat Qw c.2.2,dS b, .ref 1, .ref 4, .ref 2, .ref 5, .ref 3],ar 1 77 QE ss,ar 4 9 .str cs,ar 2 154 QD as_,ar 5 555 QF ps,(3,some (.mp true QF false .int (YV ps)))] 4 (Is (lI (ixP ps p)) [bx 0 552 [.dat Ql c.1, .dat Qo c.2.1, .dat Qw c.2.2,dS b, .ref 1, .ref 4, .ref 2, .ref 5, .ref 3],ar 1 77 QE ss,ar 4 9 .str (cdP c ps cs p),ar 2 154 QD as_,ar 5 555 QF (psP ps p),(3,some (.mp true QF false .int (YV (psP ps p))))]):=by
 refine Qv Tryz.func587 rfl rfl Tryz.ntmps587 fun r h q i s m l=> ?_
 refine acG 1 0 fun _=> ?_
 refine w_ ?_
 refine xbx 6 ?_
 refine w3 ?_
 apply dW (i5 9 _ _ _ _ _ (io 14 (PV.tup [(false,[dI ((Yr QF (YV ps) p).getD (Ty.zero .int))]),(false,[dB ((Yr QF (YV ps) p).isSome)])]) :: io 8 _ :: i2 15 _ _ (i2 5 _ _ []))) [0,0,0,0,15,0,0,0,128,256,0]
 refine z5 ?_
 refine zz (fun _ a=>ac (Qaz Qpf QpS Qvw (a.v rfl) (a.n 3 rfl) (a.w rfl) (p:=p) rfl rfl rfl) rfl) ?_
 exact y5
 refine w3 ?_
 refine cb_ (fun _=> ?_) fun _=> ?_
 refine w9 ?_
 apply dW (i6 24 _ _ _ _ _ _ [⟨none,lf (.val undef),[(3,some (.mp true QF false .int (WC QF (YV ps) p (ps.length:Int))))]⟩]) [0,0,0,0,15,31,0]
 refine z6 ?_
 refine zz (fun _ a=>ac (J8 Qpf QpS (a.v rfl) (a.n 3 rfl) (a.w rfl) (p:=p) rfl (a.w rfl) (u:=(ps.length:Int)) rfl) rfl) ?_
 exact zN
 apply dW (i6 30 _ _ _ _ _ _ (⟨some 36,lR 7,[ar 7 555 QF ([(p.1,p.2)])]⟩ :: ⟨some 37,lR 8,[ar 8 555 QF (ps++([(p.1,p.2)])),(5,none),(7,none)]⟩ :: i2 38 _ _ [⟨none,lf (.val undef),[bx 0 552 [.dat Ql c.1, .dat Qo c.2.1, .dat Qw c.2.2,dS b, .ref 1, .ref 4, .ref 2, .ref 8, .ref 3]]⟩])) [0,1,1,1,1,31,31,1,0,0,0]
 refine z6 ?_
 refine zz (fun _ a=>ac (dBs 7 (e:=QF) QeV (hab:=by exact ⟨_,_,_,_,rfl,⟨[dI p.1],[dB p.2],_,_,_,_,rfl,rfl,⟨rfl,rfl⟩,⟨rfl,rfl⟩,rfl⟩,⟨rfl,rfl⟩,rfl⟩)) rfl) ?_
 refine zz (fun _ a=>ac (dA 8 Quo) rfl) ?_
 refine z2 ?_
 refine zz (fun _ a=>ac (Q0 (a.v rfl) (a.en 0 rfl) (a.w rfl) (by simp only[Q4,Vu,ba,bA]; rw[(a.en 8 rfl)]; rfl) Qva rfl) rfl) ?_
 exact zN
 obtain ⟨g,f⟩:=gx c.2.1 ((p.1).toNat)
 have d:=o _ (ah f)
 apply dW (i9 40 _ _ _ _ _ _ _ _ _ (i8 49 _ _ _ _ _ _ _ _ (io 57 (lf (.dat .u8 (if p.2 then 49 else 48))) :: ⟨some 58,lR 9,[ar 9 5 .u8 ([if p.2 then 49 else 48])]⟩ :: io 59 (lf (dS (⟨#[if p.2 then 49 else 48]⟩:ByteArray))) :: io 60 (lf (dS (g++(⟨#[if p.2 then 49 else 48]⟩:ByteArray)))) :: ⟨some 61,lR 10,[ar 10 9 .str ([g++(⟨#[if p.2 then 49 else 48]⟩:ByteArray)])]⟩ :: ⟨some 62,lR 11,[ar 11 9 .str (cs++([g++(⟨#[if p.2 then 49 else 48]⟩:ByteArray)])),(4,none),(10,none)]⟩ :: i3 63 _ _ _ [⟨none,lf (.val undef),[bx 0 552 [.dat Ql c.1, .dat Qo c.2.1, .dat Qw c.2.2,dS b, .ref 1, .ref 11, .ref 2, .ref 8, .ref 3]]⟩]))) [0,1,1,1,1,1,63,63,63,63,63,2047,2047,63,63,32767,32767,32767,32767,32767,63,63,1,0,0,0,0]
 refine z16 ?_
 refine z_ ?_
 refine zz (fun _ a=>ac (dK (Ht p.2) QaV) rfl) ?_
 refine zz (fun _ a=>ac (dBs 9 (e:= .u8) QaL) rfl) ?_
 refine zz (fun _ a=>ac (Q7 (ys:=[if p.2 then 49 else 48]) (YA (a.v rfl) (a.n 9 rfl)) Za Wq Z7 rfl) rfl)<|zz (fun _ a=>ac (YN (a.v rfl) (a.v rfl) rfl (by first | omega | (simp only[Jc]; omega))) rfl) ?_
 refine zz (fun _ a=>ac (dBs 10 (e:= .str) HQ) rfl) ?_
 refine zz (fun _ a=>ac (dA 11 QhM) rfl) ?_
 refine z3 ?_
 refine zz (fun _ a=>ac (Q0 (a.v rfl) (a.en 0 rfl) (a.w rfl) (by simp only[Q4,Vu,ba,bA]; rw[(a.en 11 rfl)]; rfl) QtD rfl) rfl) ?_
 exact zN
 refine w5 ?_
 have j:((ps.length:Int):Int)=(ixP ps p):=by
  exact Qwm ‹_›
 exact fi_ [(4,11),(5,8)] h ⟨rfl,rfl,(Qe (by exact Qwi ‹_› ‹_›)),rfl,(Qe (by exact QsZ ‹_›)),(Qsh (by exact Qwk ‹_›)),trivial⟩ (h0:=by rw[j] <;> rfl)
 refine w5 ?_
 have k:((Yr QF (YV ps) p).getD (Ty.zero .int):Int)=(ixP ps p):=by
  exact Qwn ‹_›
 exact fi_ [] h ⟨rfl,rfl,(Qe (by exact Qwj ‹_›)),rfl,(Qe (by exact Qs0 ‹_›)),(Qsh (by exact Qwl ‹_›)),trivial⟩ (h0:=by rw[k] <;> rfl)
end Go.Proofs.YtndabgcpnmeeoaaGreat
namespace Go.Proofs.YtndabgcpnmeeoaaGreat
open Go.RowKit
set_option maxRecDepth 100000
set_option maxHeartbeats 4000000
abbrev Ins:=List PSt×List ByteArray×List DAr
def Yf (s:ByteArray)(p:PSt):Bool:=(decide (bAt s p.1=43)&& !p.2)||(decide (bAt s p.1=45)&&p.2)
def Wj (s:ByteArray)(p:PSt)(a:DAr):Bool:=(decide (bAt s a.2.2.2=48)&&p.2)||(decide (bAt s a.2.2.2=49)&& !p.2)||(Yf s p&&ZK s a)
def K8 (c:DSg)(st:Ins)(k:Int)(l:Zl)(p:PSt):Ins:=(psP st.1 p,cdP c st.1 st.2.1 p,st.2.2++[(k,l.1,l.2,ixP st.1 p)])
def HL (c:DSg)(s:ByteArray)(k:Int)(p:PSt)(st:Ins)(a:DAr):Ins:=if Wj s p a=true then st else K8 c st k (a.2.1,a.2.2.1) (a.2.2.2,p.2)
def Qeo (c:DSg)(s:ByteArray)(st:Ins)(k:Int)(p:PSt):Ins:=if Yf s p=true then K8 c st k ((c.1.length:Int),decide (bAt s p.1=43)) (p.1, !p.2) else st
def VU (c:DSg)(s:ByteArray)(st:Ins)(k:Int):Ins:=match st.1[k.toNat]? with
 | none=>st
 | some p=>(Z9 c.2.2 p.1).foldl (HL c s k p) (Qeo c s st k p)
section
variable {c:DSg}{s:ByteArray}{st:Ins}{k:Int}{p:PSt}{a:DAr}{i:Nat}{x:UInt8}{l:List DAr}
theorem QoZ (h:st.1[k.toNat]? =some p):VU c s st k=(Z9 c.2.2 p.1).foldl (HL c s k p) (Qeo c s st k p):=by unfold VU; rw[h]
theorem ZN {α β:Type _}{l:List α}{f:β→α→β}{b:β}{i:Nat}{x:α}(d:l[i]? =some x):(l.drop i).foldl f b=(l.drop (i+1)).foldl f (f b x):=by rw[ZB d,aW]
theorem Uq {α β:Type _}{l:List α}{f:β→α→β}{b:β}{i:Nat}(h:l.length≤i):(l.drop i).foldl f b=b:=by rw[bn h]; rfl
theorem Wp (h:Wj s p a=true):HL c s k p st a=st:=if_pos h
theorem Vx (h:Wj s p a=false):HL c s k p st a=K8 c st k (a.2.1,a.2.2.1) (a.2.2.2,p.2):=if_neg (by rw[h]; decide)
theorem QeN (h:Yf s p=true):Qeo c s st k p=K8 c st k ((c.1.length:Int),decide (bAt s p.1=43)) (p.1, !p.2):=if_pos h
theorem Qjv (h:Yf s p=false):Qeo c s st k p=st:=if_neg (by rw[h]; decide)
end
theorem Zc (c:DSg)(f:ByteArray)(ss:List QM)(cs:List ByteArray)(as_:List DAr)(ps:List PSt)(q:Int)(l:JY)(p:JY)(r:0≤p.1∧p.1 < (c.2.1.length:Int))(n:∀x∈c.2.1,x.size≤1000)(o:ps.length≤1000000∧cs.length≤1000000)(z:as_.length≤100000000):FC Tryz.prog 592 [(false,[.ptr 0 0]),(false,[dI q]),(true,[dI l.1,dB l.2]),(true,[dI p.1,dB p.2])] [bx 0 552 [.dat Ql c.1, .dat Qo c.2.1, .dat Qw c.2.2,dS f, .ref 1, .ref 3, .ref 4, .ref 5, .ref 2],ar 1 77 QE ss,ar 3 9 .str cs,ar 4 154 QD as_,ar 5 555 QF ps,(2,some (.mp true QF false .int (YV ps)))] 3 (Is (PV.tup []) [bx 0 552 [.dat Ql c.1, .dat Qo c.2.1, .dat Qw c.2.2,dS f, .ref 1, .ref 3, .ref 4, .ref 5, .ref 2],ar 1 77 QE ss,ar 3 9 .str (cdP c ps cs p),ar 4 154 QD (as_++[(q,l.1,l.2,ixP ps p)]),ar 5 555 QF (psP ps p),(2,some (.mp true QF false .int (YV (psP ps p))))]):=by
 refine Qv Tryz.func592 rfl rfl Tryz.ntmps592 fun u m t g y j h=> ?_
 refine acI 1 fun _=> ?_
 refine acG 2 0 fun _=> ?_
 refine acG 3 0 fun _=> ?_
 refine w_ ?_
 refine xbx 6 ?_
 refine xbx 7 ?_
 refine w_ ?_
 apply dV (i2 8 _ _ (io 10 (lP 0 0) :: io 11 (lP 0 4) :: io 12 (lP 0 6) :: io 13 (lR 4) :: i7 14 _ _ _ _ _ _ _ (⟨some 21,lI (ixP ps p),[bx 0 552 [.dat Ql c.1, .dat Qo c.2.1, .dat Qw c.2.2,dS f, .ref 1, .ref 12, .ref 4, .ref 13, .ref 2],ar 1 77 QE ss,ar 12 9 .str (cdP c ps cs p),ar 4 154 QD as_,ar 13 555 QF (psP ps p),(2,some (.mp true QF false .int (YV (psP ps p)))),(0,none),(1,none),(3,none),(4,none),(5,none),(2,none)]⟩ :: io 22 (ag [dI q,dI l.1,dB l.2,dI (ixP ps p)]) :: ⟨some 23,lR 14,[ar 14 154 QD ([(q,l.1,l.2,ixP ps p)])]⟩ :: ⟨some 24,lR 15,[ar 15 154 QD (as_++([(q,l.1,l.2,ixP ps p)])),(4,none),(14,none)]⟩ :: i3 25 _ _ _ [⟨none,lf (.val undef),[bx 0 552 [.dat Ql c.1, .dat Qo c.2.1, .dat Qw c.2.2,dS f, .ref 1, .ref 12, .ref 15, .ref 13, .ref 2]]⟩]))) [0,1,1,1,1,1,63,127,127,511,511,2047,4095,2047,63,63,1,0,0,0,0]
 refine z2 ?_
 refine zz (fun _ b=>by rcases b.en2 0 13 rfl with d | d <;> exact ac (Wb (b.v rfl) (by rw[d]; rfl) rfl) rfl)<|zz (fun _ b=>by rcases b.en2 0 13 rfl with d | d <;> exact ac (ZA (b.v rfl) Qqv (by rw[d]; rfl) rfl) rfl)<|zz (fun _ b=>by rcases b.en2 0 13 rfl with d | d <;> exact ac (ZA (b.v rfl) Hy (by rw[d]; rfl) rfl) rfl)<|zz (fun _ b=>by rcases b.en2 0 13 rfl with d | d <;> exact ac (Xl (b.v rfl) d Kk rfl rfl) rfl) ?_
 refine z7 ?_
 refine zz (fun _ b=>ac (dP 8 [(2,4),(3,2),(4,3)] (YQ c f ss cs as_ ps p r n o) Qa6) rfl) ?_
 refine zz (fun _ b=>ac (Qi K9 ⟨_,_,rfl,(b.w rfl),⟨_,_,rfl,(b.w rfl),⟨_,_,rfl,(b.w rfl),⟨_,_,rfl,(b.w rfl),rfl⟩⟩⟩⟩ (ak.1 rfl) rfl rfl) rfl) ?_
 refine zz (fun _ b=>ac (dBs 14 (e:=QD) QU (hab:=by exact ⟨_,_,_,_,rfl,⟨[dI q],[dI l.1,dB l.2,dI (ixP ps p)],_,_,_,_,rfl,rfl,⟨rfl,rfl⟩,⟨[dI l.1],[dB l.2,dI (ixP ps p)],_,_,_,_,rfl,rfl,⟨rfl,rfl⟩,⟨[dB l.2],[dI (ixP ps p)],_,_,_,_,rfl,rfl,⟨rfl,rfl⟩,⟨rfl,rfl⟩,rfl⟩,rfl⟩,rfl⟩,⟨rfl,rfl⟩,rfl⟩)) rfl) ?_
 refine zz (fun _ b=>ac (dA 15 Ww) rfl) ?_
 refine z3 ?_
 refine zz (fun _ b=>ac (Q0 (b.v rfl) (b.en 0 rfl) (b.w rfl) (by simp only[Q4,Vu,ba,bA]; rw[(b.en 15 rfl)]; rfl) Kk rfl) rfl) ?_
 exact zN
 refine (?_:fin _ _ _ _ .normal _)
 exact fi_ [(3,12),(4,15),(5,13)] m ⟨rfl,rfl,rfl,(Qe (by rfl)),rfl,rfl,trivial⟩
theorem Kx (c:DSg)(d:ByteArray)(ss:List QM)(cs:List ByteArray)(as_:List DAr)(ps:List PSt)(k:Int)(hk:0≤k∧k < (ps.length:Int))(M:SignsOk c d)(T:∀p∈ps,0≤p.1∧p.1 < (c.2.1.length:Int))(hl:ps.length≤10000∧cs.length≤10000∧as_.length≤90000000):FC Tryz.prog 588 [(false,[.ptr 0 0]),(false,[dI k])] [bx 0 552 [.dat Ql c.1, .dat Qo c.2.1, .dat Qw c.2.2,dS d, .ref 1, .ref 3, .ref 4, .ref 5, .ref 2],ar 1 77 QE ss,ar 3 9 .str cs,ar 4 154 QD as_,ar 5 555 QF ps,(2,some (.mp true QF false .int (YV ps)))] 3 (Is (PV.tup []) [bx 0 552 [.dat Ql c.1, .dat Qo c.2.1, .dat Qw c.2.2,dS d, .ref 1, .ref 3, .ref 4, .ref 5, .ref 2],ar 1 77 QE ss,ar 3 9 .str ((VU c d (ps,cs,as_) k).2.1),ar 4 154 QD ((VU c d (ps,cs,as_) k).2.2),ar 5 555 QF ((VU c d (ps,cs,as_) k).1),(2,some (.mp true QF false .int (YV ((VU c d (ps,cs,as_) k).1))))]):=by
 have b8:=M.2.1
 have b5:=M.2.2.some_
 have b0:=M.2.2.few
 have b7:=UA M.2.2.sigs
 have F:∀x∈c.2.1,x.size≤1000:=fun x hx=>by have:=(M.2.2.codes x hx).2; omega
 refine Qv Tryz.func588 rfl rfl Tryz.ntmps588 fun O_ hO b9 a5 X_ a7 a6=> ?_
 refine acI 1 fun _=> ?_
 obtain ⟨p,L⟩:=gx ps ((k).toNat)
 have b6:=T _ (ah L)
 have V:=L
 have a9:=Qcf (l:=c.2.2) (q:=p.1)
 apply dW (i5 11 _ _ _ _ _ (io 16 (lf (.ept 5 2 ((k).toNat) 0)) :: io 17 (ag [dI p.1,dB p.2]) :: i6 18 _ _ _ _ _ _ [⟨some 4,lP 6 0,[bx 6 555 [dI 0,dB false]]⟩,⟨none,lf (.val undef),[bx 6 555 [dI p.1,dB p.2]]⟩,io 5 _])) [0,0,0,0,15,0,0,127,127,127,127,127,127,8191,8064,0]
 refine z5 ?_
 refine zz (fun _ g=>ac (QI (e:=QF) (g.v rfl) (g.en 5 rfl) (g.v rfl) Qvc QpR rfl (by omega) (by first | omega | (simp only[ap]; omega))) rfl)<|zz (fun _ g=>ac (Vk (e:=QF) (g.v rfl) (g.n 5 rfl) L rfl QpR rfl rfl) rfl) ?_
 refine z6 ?_
 refine zz (fun _ g=>ac (Yl 6 QF QeV rfl rfl (g.fr 6 rfl) (nlr rfl)) rfl) ?_
 exact y2
 obtain ⟨c4,a8⟩:=gs d ((p.1).toNat)
 apply dW (i7 24 _ _ _ _ _ _ _ [io 6 _]) [0,0,0,0,15,15,0,0]
 exact y8
 refine QeX (fun R=>∃(w:Bool) (u:List (Int×Bool)) (z:List ByteArray) (y:List (Int×Int×Bool×Int)),(Yf d p=w)∧((u,z,y)=Qeo c d (ps,cs,as_) k p)∧(u.length≤ps.length+1∧z.length≤cs.length+1∧y.length≤as_.length+1)∧R=⟨[(0,lP 0 0),(1,lI k),(4,lP 6 0),(7,lB w)],[bx 0 552 [.dat Ql c.1, .dat Qo c.2.1, .dat Qw c.2.2,dS d, .ref 1, .ref 8, .ref 9, .ref 7, .ref 2],ar 1 77 QE ss,(2,some (.mp true QF false .int (YV u))),bx 6 555 [dI p.1,dB p.2],ar 7 555 QF u,ar 8 9 .str z,ar 9 154 QD y]⟩) ?_ fun N=> ?_
 rintro R ⟨w,u,z,y,hw,hP,b2,rfl⟩
 apply dW (i6 60 _ _ _ _ _ _ (io 66 (lf (.dat Qw (Z9 c.2.2 p.1))) :: i2 67 _ _ [])) [0,0,0,0,15,15,0,0,255]
 refine z6 ?_
 refine zz (fun _ g=>ac (dK (Qc3 c p.1 (by omega)).frozen QnF) rfl) ?_
 exact y2
 refine w_ ?_
 refine QP (fun m_ R=>∃(i:Nat) (f:List (Int×Bool)) (j:List ByteArray) (h:List (Int×Int×Bool×Int)),i≤(Z9 c.2.2 p.1).length∧m_=(Z9 c.2.2 p.1).length - i∧(VU c d (ps,cs,as_) k=((Z9 c.2.2 p.1).drop i).foldl (HL c d k p) (f,j,h))∧(f.length≤ps.length+1+i∧j.length≤cs.length+1+i∧h.length≤as_.length+1+i)∧R=⟨[(0,lP 0 0),(1,lI k),(4,lP 6 0),(7,lB w),(66,lf (.dat Qw (Z9 c.2.2 p.1))),(67,lI ((Z9 c.2.2 p.1).length:Int)),(68,lI (i:Int))],[bx 0 552 [.dat Ql c.1, .dat Qo c.2.1, .dat Qw c.2.2,dS d, .ref 1, .ref 11, .ref 12, .ref 10, .ref 2],ar 1 77 QE ss,(2,some (.mp true QF false .int (YV f))),bx 6 555 [dI p.1,dB p.2],ar 10 555 QF f,ar 11 9 .str j,ar 12 154 QD h]⟩) ⟨0,u,z,y,aG _,rfl,(by rw[hP]; exact QoZ V),(by omega),rfl⟩ ?_ ?_
 exact wo [(10,7),(11,8),(12,9)]
 rintro m_ R ⟨i,f,j,h,b1,b4,t,b3,rfl⟩
 refine w4 ?_
 cases P:(decide ((i:Int) < ((Z9 c.2.2 p.1).length:Int)))
 have Q:=aa P
 refine w2 ?_
 refine (?_:fin _ _ _ _ .normal _)
 exact fi_ [(3,11),(4,12),(5,10)] hO ⟨rfl,rfl,(Qe (by (rw[t,Uq (by omega)]; done))),(Qe (by (rw[t,Uq (by omega)]; done))),(Qe (by (rw[t,Uq (by omega)]; done))),(Qsh (by (rw[t,Uq (by omega)]; done))),trivial⟩
 have Q:=ab P
 refine w5 ?_
 obtain ⟨b,o⟩:=gx (Z9 c.2.2 p.1) i
 have K:=Qgl.1 (ah o)
 have U:=M.at_ K.1
 refine w2 ?_
 refine lc (xal 13 QD QU) ?_
 refine w3 ?_
 obtain ⟨O,a4⟩:=gs d ((b.2.2.2).toNat)
 apply dW (i7 72 _ _ _ _ _ _ _ [io 10 _]) [0,0,0,0,15,15,0,0]
 exact y8
 cases m:(decide (O=48))
 have G:=aa m
 cases r:(decide (O=49))
 have H:=aa r
 cases W:(w)
 apply dW (io 79 _ :: io 80 (lB false) :: i6 81 _ _ _ _ _ _ (io 87 (lB false) :: i9 88 _ _ _ _ _ _ _ _ _ (i8 97 _ _ _ _ _ _ _ _ []))) [0,0,0,0,0,0,0,0,0,0,0,0,0,0,0,0,0,0,0,262144,262144,262144,262144,0,0,0]
 refine z_ ?_
 refine zz (fun _ g=>ac (QH (m) (Qu (g.v rfl) (QC 48 rfl) rfl)) rfl) ?_
 refine z6 ?_
 refine zz (fun _ g=>day rfl (g.k rfl) (QH (r) (Qu (g.v rfl) (QC 49 rfl) rfl)) rfl) ?_
 refine z16 ?_
 exact y1
 refine w2 ?_
 apply dV (i3 105 _ _ _ (io 108 (ag [dI b.2.1,dB b.2.2.1]) :: i4 109 _ _ _ _ [io 113 (ag [dI b.2.2.2,dB p.2]),⟨some 114,PV.tup [],[bx 0 552 [.dat Ql c.1, .dat Qo c.2.1, .dat Qw c.2.2,dS d, .ref 1, .ref 17, .ref 18, .ref 19, .ref 2],ar 1 77 QE ss,ar 17 9 .str (cdP c f j (b.2.2.2,p.2)),ar 18 154 QD (h++[(k,(b.2.1,b.2.2.1).1,(b.2.1,b.2.2.1).2,ixP f (b.2.2.2,p.2))]),ar 19 555 QF (psP f (b.2.2.2,p.2)),(2,some (.mp true QF false .int (YV (psP f (b.2.2.2,p.2))))),(0,none),(1,none),(11,none),(12,none),(10,none),(2,none)]⟩])) [0,1,3,3,15,15,63,63,15,0]
 refine z3 ?_
 refine zz (fun _ g=>ac (dK (Zf b) Y2) rfl) ?_
 refine z4 ?_
 refine zz (fun _ g=>ac (Qi Va ⟨_,_,rfl,(g.w rfl),⟨_,_,rfl,(g.w rfl),rfl⟩⟩ (ak.1 rfl) rfl rfl) rfl) ?_
 refine zz (fun _ g=>ac (dP 14 [(3,11),(4,12),(5,10)] (Zc c d ss j h f k (b.2.1,b.2.2.1) (b.2.2.2,p.2) (by refine ⟨?_, ?_⟩ <;> (try dsimp only) <;> omega) F (by omega) (by omega)) Xr) rfl) ?_
 exact zN
 refine w4 ?_
 refine Qb<|QW ⟨i+1,(psP f (b.2.2.2,p.2)),(cdP c f j (b.2.2.2,p.2)),(h++[(k,(b.2.1,b.2.2.1).1,(b.2.1,b.2.2.1).2,ixP f (b.2.2.2,p.2))]),by omega,rfl,(by (rw[t,ZN o,Vx (by unfold Wj; rw[QB ‹_›]; simp[*])]; simp[K8, *]; done)),(by (exact ⟨aU XZ (by omega),aU XW (by omega),by rw[aj]; simp; omega⟩)),rfl⟩ (by omega) ?_
 exact wo [(10,19),(11,17),(12,18)]
 apply dW (io 79 _ :: io 80 (lB false) :: i6 81 _ _ _ _ _ _ (io 87 (lB false) :: i9 88 _ _ _ _ _ _ _ _ _ (i5 97 _ _ _ _ _ (io 102 (lB (ZK d b)) :: i2 103 _ _ [])))) [0,0,0,0,0,0,0,0,0,0,0,0,0,0,0,0,0,0,0,262144,262144,262144,262144,0,0,0]
 refine z_ ?_
 refine zz (fun _ g=>ac (QH (m) (Qu (g.v rfl) (QC 48 rfl) rfl)) rfl) ?_
 refine z6 ?_
 refine zz (fun _ g=>day rfl (g.k rfl) (QH (r) (Qu (g.v rfl) (QC 49 rfl) rfl)) rfl) ?_
 refine z14 ?_
 refine zz (fun _ g=>day rfl (g.k rfl) (dK (Xf b d (by omega) (by omega)) Jl) rfl) ?_
 exact y2
 cases X:(ZK d b)
 refine w2 ?_
 apply dV (i3 105 _ _ _ (io 108 (ag [dI b.2.1,dB b.2.2.1]) :: i4 109 _ _ _ _ [io 113 (ag [dI b.2.2.2,dB p.2]),⟨some 114,PV.tup [],[bx 0 552 [.dat Ql c.1, .dat Qo c.2.1, .dat Qw c.2.2,dS d, .ref 1, .ref 23, .ref 24, .ref 25, .ref 2],ar 1 77 QE ss,ar 23 9 .str (cdP c f j (b.2.2.2,p.2)),ar 24 154 QD (h++[(k,(b.2.1,b.2.2.1).1,(b.2.1,b.2.2.1).2,ixP f (b.2.2.2,p.2))]),ar 25 555 QF (psP f (b.2.2.2,p.2)),(2,some (.mp true QF false .int (YV (psP f (b.2.2.2,p.2))))),(0,none),(1,none),(11,none),(12,none),(10,none),(2,none)]⟩])) [0,1,3,3,15,15,63,63,15,0]
 refine z3 ?_
 refine zz (fun _ g=>ac (dK (Zf b) Y2) rfl) ?_
 refine z4 ?_
 refine zz (fun _ g=>ac (Qi Va ⟨_,_,rfl,(g.w rfl),⟨_,_,rfl,(g.w rfl),rfl⟩⟩ (ak.1 rfl) rfl rfl) rfl) ?_
 refine zz (fun _ g=>ac (dP 20 [(3,11),(4,12),(5,10)] (Zc c d ss j h f k (b.2.1,b.2.2.1) (b.2.2.2,p.2) (by refine ⟨?_, ?_⟩ <;> (try dsimp only) <;> omega) F (by omega) (by omega)) Xr) rfl) ?_
 exact zN
 refine w4 ?_
 refine Qb<|QW ⟨i+1,(psP f (b.2.2.2,p.2)),(cdP c f j (b.2.2.2,p.2)),(h++[(k,(b.2.1,b.2.2.1).1,(b.2.1,b.2.2.1).2,ixP f (b.2.2.2,p.2))]),by omega,rfl,(by (rw[t,ZN o,Vx (by unfold Wj; rw[QB ‹_›]; simp[*])]; simp[K8, *]; done)),(by (exact ⟨aU XZ (by omega),aU XW (by omega),by rw[aj]; simp; omega⟩)),rfl⟩ (by omega) ?_
 exact wo [(10,25),(11,23),(12,24)]
 refine w6 ?_
 refine Qb<|QW ⟨i+1,f,j,h,by omega,rfl,(by (rw[t,ZN o,Wp (by unfold Wj; rw[QB ‹_›]; simp[*])]; done)),(by omega),rfl⟩ (by omega) ?_
 exact wo []
 have H:=ab r
 cases Y:(p.2)
 apply dW (io 79 _ :: io 80 (lB false) :: i6 81 _ _ _ _ _ _ (io 87 (lB true) :: i9 88 _ _ _ _ _ _ _ _ _ (i8 97 _ _ _ _ _ _ _ _ []))) [0,0,0,0,0,0,0,0,0,0,0,0,0,0,0,0,0,0,0,262144,262144,262144,262144,0,0,0]
 refine z_ ?_
 refine zz (fun _ g=>ac (QH (m) (Qu (g.v rfl) (QC 48 rfl) rfl)) rfl) ?_
 refine z6 ?_
 refine zz (fun _ g=>day rfl (g.k rfl) (QH (r) (Qu (g.v rfl) (QC 49 rfl) rfl)) rfl) ?_
 refine z16 ?_
 exact y1
 refine w6 ?_
 refine Qb<|QW ⟨i+1,f,j,h,by omega,rfl,(by (rw[t,ZN o,Wp (by unfold Wj; rw[QB ‹_›]; simp[*])]; done)),(by omega),rfl⟩ (by omega) ?_
 exact wo []
 cases Z:(w)
 apply dW (io 79 _ :: io 80 (lB false) :: i6 81 _ _ _ _ _ _ (io 87 (lB true) :: i9 88 _ _ _ _ _ _ _ _ _ (i8 97 _ _ _ _ _ _ _ _ []))) [0,0,0,0,0,0,0,0,0,0,0,0,0,0,0,0,0,0,0,262144,262144,262144,262144,0,0,0]
 refine z_ ?_
 refine zz (fun _ g=>ac (QH (m) (Qu (g.v rfl) (QC 48 rfl) rfl)) rfl) ?_
 refine z6 ?_
 refine zz (fun _ g=>day rfl (g.k rfl) (QH (r) (Qu (g.v rfl) (QC 49 rfl) rfl)) rfl) ?_
 refine z16 ?_
 exact y1
 refine w2 ?_
 apply dV (i3 105 _ _ _ (io 108 (ag [dI b.2.1,dB b.2.2.1]) :: i4 109 _ _ _ _ [io 113 (ag [dI b.2.2.2,dB true]),⟨some 114,PV.tup [],[bx 0 552 [.dat Ql c.1, .dat Qo c.2.1, .dat Qw c.2.2,dS d, .ref 1, .ref 29, .ref 30, .ref 31, .ref 2],ar 1 77 QE ss,ar 29 9 .str (cdP c f j (b.2.2.2,true)),ar 30 154 QD (h++[(k,(b.2.1,b.2.2.1).1,(b.2.1,b.2.2.1).2,ixP f (b.2.2.2,true))]),ar 31 555 QF (psP f (b.2.2.2,true)),(2,some (.mp true QF false .int (YV (psP f (b.2.2.2,true))))),(0,none),(1,none),(11,none),(12,none),(10,none),(2,none)]⟩])) [0,1,3,3,15,15,63,63,15,0]
 refine z3 ?_
 refine zz (fun _ g=>ac (dK (Zf b) Y2) rfl) ?_
 refine z4 ?_
 refine zz (fun _ g=>ac (Qi Va ⟨_,_,rfl,(g.w rfl),⟨_,_,rfl,(g.w rfl),rfl⟩⟩ (ak.1 rfl) rfl rfl) rfl) ?_
 refine zz (fun _ g=>ac (dP 26 [(3,11),(4,12),(5,10)] (Zc c d ss j h f k (b.2.1,b.2.2.1) (b.2.2.2,true) (by refine ⟨?_, ?_⟩ <;> (try dsimp only) <;> omega) F (by omega) (by omega)) Xr) rfl) ?_
 exact zN
 refine w4 ?_
 refine Qb<|QW ⟨i+1,(psP f (b.2.2.2,true)),(cdP c f j (b.2.2.2,true)),(h++[(k,(b.2.1,b.2.2.1).1,(b.2.1,b.2.2.1).2,ixP f (b.2.2.2,true))]),by omega,rfl,(by (rw[t,ZN o,Vx (by unfold Wj; rw[QB ‹_›]; simp[*])]; simp[K8, *]; done)),(by (exact ⟨aU XZ (by omega),aU XW (by omega),by rw[aj]; simp; omega⟩)),rfl⟩ (by omega) ?_
 exact wo [(10,31),(11,29),(12,30)]
 apply dW (io 79 _ :: io 80 (lB false) :: i6 81 _ _ _ _ _ _ (io 87 (lB true) :: i9 88 _ _ _ _ _ _ _ _ _ (i5 97 _ _ _ _ _ (io 102 (lB (ZK d b)) :: i2 103 _ _ [])))) [0,0,0,0,0,0,0,0,0,0,0,0,0,0,0,0,0,0,0,262144,262144,262144,262144,0,0,0]
 refine z_ ?_
 refine zz (fun _ g=>ac (QH (m) (Qu (g.v rfl) (QC 48 rfl) rfl)) rfl) ?_
 refine z6 ?_
 refine zz (fun _ g=>day rfl (g.k rfl) (QH (r) (Qu (g.v rfl) (QC 49 rfl) rfl)) rfl) ?_
 refine z14 ?_
 refine zz (fun _ g=>day rfl (g.k rfl) (dK (Xf b d (by omega) (by omega)) Jl) rfl) ?_
 exact y2
 cases a0:(ZK d b)
 refine w2 ?_
 apply dV (i3 105 _ _ _ (io 108 (ag [dI b.2.1,dB b.2.2.1]) :: i4 109 _ _ _ _ [io 113 (ag [dI b.2.2.2,dB true]),⟨some 114,PV.tup [],[bx 0 552 [.dat Ql c.1, .dat Qo c.2.1, .dat Qw c.2.2,dS d, .ref 1, .ref 35, .ref 36, .ref 37, .ref 2],ar 1 77 QE ss,ar 35 9 .str (cdP c f j (b.2.2.2,true)),ar 36 154 QD (h++[(k,(b.2.1,b.2.2.1).1,(b.2.1,b.2.2.1).2,ixP f (b.2.2.2,true))]),ar 37 555 QF (psP f (b.2.2.2,true)),(2,some (.mp true QF false .int (YV (psP f (b.2.2.2,true))))),(0,none),(1,none),(11,none),(12,none),(10,none),(2,none)]⟩])) [0,1,3,3,15,15,63,63,15,0]
 refine z3 ?_
 refine zz (fun _ g=>ac (dK (Zf b) Y2) rfl) ?_
 refine z4 ?_
 refine zz (fun _ g=>ac (Qi Va ⟨_,_,rfl,(g.w rfl),⟨_,_,rfl,(g.w rfl),rfl⟩⟩ (ak.1 rfl) rfl rfl) rfl) ?_
 refine zz (fun _ g=>ac (dP 32 [(3,11),(4,12),(5,10)] (Zc c d ss j h f k (b.2.1,b.2.2.1) (b.2.2.2,true) (by refine ⟨?_, ?_⟩ <;> (try dsimp only) <;> omega) F (by omega) (by omega)) Xr) rfl) ?_
 exact zN
 refine w4 ?_
 refine Qb<|QW ⟨i+1,(psP f (b.2.2.2,true)),(cdP c f j (b.2.2.2,true)),(h++[(k,(b.2.1,b.2.2.1).1,(b.2.1,b.2.2.1).2,ixP f (b.2.2.2,true))]),by omega,rfl,(by (rw[t,ZN o,Vx (by unfold Wj; rw[QB ‹_›]; simp[*])]; simp[K8, *]; done)),(by (exact ⟨aU XZ (by omega),aU XW (by omega),by rw[aj]; simp; omega⟩)),rfl⟩ (by omega) ?_
 exact wo [(10,37),(11,35),(12,36)]
 refine w6 ?_
 refine Qb<|QW ⟨i+1,f,j,h,by omega,rfl,(by (rw[t,ZN o,Wp (by unfold Wj; rw[QB ‹_›]; simp[*])]; done)),(by omega),rfl⟩ (by omega) ?_
 exact wo []
 have G:=ab m
 cases a1:(p.2)
 cases a2:(w)
 apply dW (io 79 _ :: io 80 (lB true) :: i6 81 _ _ _ _ _ _ (io 87 (lB false) :: i9 88 _ _ _ _ _ _ _ _ _ (i8 97 _ _ _ _ _ _ _ _ []))) [0,0,0,0,0,0,0,0,0,0,0,0,0,0,0,0,0,0,0,262144,262144,262144,262144,0,0,0]
 refine z_ ?_
 refine zz (fun _ g=>ac (QH (m) (Qu (g.v rfl) (QC 48 rfl) rfl)) rfl) ?_
 refine z6 ?_
 refine zz (fun _ g=>day rfl (g.k rfl) (QH (aB fun g=>absurd ((ab (m)).symm.trans g) (by decide)) (Qu (g.v rfl) (QC 49 rfl) rfl)) rfl) ?_
 refine z16 ?_
 exact y1
 refine w2 ?_
 apply dV (i3 105 _ _ _ (io 108 (ag [dI b.2.1,dB b.2.2.1]) :: i4 109 _ _ _ _ [io 113 (ag [dI b.2.2.2,dB false]),⟨some 114,PV.tup [],[bx 0 552 [.dat Ql c.1, .dat Qo c.2.1, .dat Qw c.2.2,dS d, .ref 1, .ref 41, .ref 42, .ref 43, .ref 2],ar 1 77 QE ss,ar 41 9 .str (cdP c f j (b.2.2.2,false)),ar 42 154 QD (h++[(k,(b.2.1,b.2.2.1).1,(b.2.1,b.2.2.1).2,ixP f (b.2.2.2,false))]),ar 43 555 QF (psP f (b.2.2.2,false)),(2,some (.mp true QF false .int (YV (psP f (b.2.2.2,false))))),(0,none),(1,none),(11,none),(12,none),(10,none),(2,none)]⟩])) [0,1,3,3,15,15,63,63,15,0]
 refine z3 ?_
 refine zz (fun _ g=>ac (dK (Zf b) Y2) rfl) ?_
 refine z4 ?_
 refine zz (fun _ g=>ac (Qi Va ⟨_,_,rfl,(g.w rfl),⟨_,_,rfl,(g.w rfl),rfl⟩⟩ (ak.1 rfl) rfl rfl) rfl) ?_
 refine zz (fun _ g=>ac (dP 38 [(3,11),(4,12),(5,10)] (Zc c d ss j h f k (b.2.1,b.2.2.1) (b.2.2.2,false) (by refine ⟨?_, ?_⟩ <;> (try dsimp only) <;> omega) F (by omega) (by omega)) Xr) rfl) ?_
 exact zN
 refine w4 ?_
 refine Qb<|QW ⟨i+1,(psP f (b.2.2.2,false)),(cdP c f j (b.2.2.2,false)),(h++[(k,(b.2.1,b.2.2.1).1,(b.2.1,b.2.2.1).2,ixP f (b.2.2.2,false))]),by omega,rfl,(by (rw[t,ZN o,Vx (by unfold Wj; rw[QB ‹_›]; simp[*])]; simp[K8, *]; done)),(by (exact ⟨aU XZ (by omega),aU XW (by omega),by rw[aj]; simp; omega⟩)),rfl⟩ (by omega) ?_
 exact wo [(10,43),(11,41),(12,42)]
 apply dW (io 79 _ :: io 80 (lB true) :: i6 81 _ _ _ _ _ _ (io 87 (lB false) :: i9 88 _ _ _ _ _ _ _ _ _ (i5 97 _ _ _ _ _ (io 102 (lB (ZK d b)) :: i2 103 _ _ [])))) [0,0,0,0,0,0,0,0,0,0,0,0,0,0,0,0,0,0,0,262144,262144,262144,262144,0,0,0]
 refine z_ ?_
 refine zz (fun _ g=>ac (QH (m) (Qu (g.v rfl) (QC 48 rfl) rfl)) rfl) ?_
 refine z6 ?_
 refine zz (fun _ g=>day rfl (g.k rfl) (QH (aB fun g=>absurd ((ab (m)).symm.trans g) (by decide)) (Qu (g.v rfl) (QC 49 rfl) rfl)) rfl) ?_
 refine z14 ?_
 refine zz (fun _ g=>day rfl (g.k rfl) (dK (Xf b d (by omega) (by omega)) Jl) rfl) ?_
 exact y2
 cases a3:(ZK d b)
 refine w2 ?_
 apply dV (i3 105 _ _ _ (io 108 (ag [dI b.2.1,dB b.2.2.1]) :: i4 109 _ _ _ _ [io 113 (ag [dI b.2.2.2,dB false]),⟨some 114,PV.tup [],[bx 0 552 [.dat Ql c.1, .dat Qo c.2.1, .dat Qw c.2.2,dS d, .ref 1, .ref 47, .ref 48, .ref 49, .ref 2],ar 1 77 QE ss,ar 47 9 .str (cdP c f j (b.2.2.2,false)),ar 48 154 QD (h++[(k,(b.2.1,b.2.2.1).1,(b.2.1,b.2.2.1).2,ixP f (b.2.2.2,false))]),ar 49 555 QF (psP f (b.2.2.2,false)),(2,some (.mp true QF false .int (YV (psP f (b.2.2.2,false))))),(0,none),(1,none),(11,none),(12,none),(10,none),(2,none)]⟩])) [0,1,3,3,15,15,63,63,15,0]
 refine z3 ?_
 refine zz (fun _ g=>ac (dK (Zf b) Y2) rfl) ?_
 refine z4 ?_
 refine zz (fun _ g=>ac (Qi Va ⟨_,_,rfl,(g.w rfl),⟨_,_,rfl,(g.w rfl),rfl⟩⟩ (ak.1 rfl) rfl rfl) rfl) ?_
 refine zz (fun _ g=>ac (dP 44 [(3,11),(4,12),(5,10)] (Zc c d ss j h f k (b.2.1,b.2.2.1) (b.2.2.2,false) (by refine ⟨?_, ?_⟩ <;> (try dsimp only) <;> omega) F (by omega) (by omega)) Xr) rfl) ?_
 exact zN
 refine w4 ?_
 refine Qb<|QW ⟨i+1,(psP f (b.2.2.2,false)),(cdP c f j (b.2.2.2,false)),(h++[(k,(b.2.1,b.2.2.1).1,(b.2.1,b.2.2.1).2,ixP f (b.2.2.2,false))]),by omega,rfl,(by (rw[t,ZN o,Vx (by unfold Wj; rw[QB ‹_›]; simp[*])]; simp[K8, *]; done)),(by (exact ⟨aU XZ (by omega),aU XW (by omega),by rw[aj]; simp; omega⟩)),rfl⟩ (by omega) ?_
 exact wo [(10,49),(11,47),(12,48)]
 refine w6 ?_
 refine Qb<|QW ⟨i+1,f,j,h,by omega,rfl,(by (rw[t,ZN o,Wp (by unfold Wj; rw[QB ‹_›]; simp[*])]; done)),(by omega),rfl⟩ (by omega) ?_
 exact wo []
 apply dW (io 79 _ :: io 80 (lB true) :: i9 81 _ _ _ _ _ _ _ _ _ (i9 90 _ _ _ _ _ _ _ _ _ (i6 99 _ _ _ _ _ _ []))) [0,0,0,0,0,0,0,0,0,0,0,0,0,0,0,0,0,0,0,262144,262144,262144,262144,0,0,0]
 refine z_ ?_
 refine zz (fun _ g=>ac (QH (m) (Qu (g.v rfl) (QC 48 rfl) rfl)) rfl) ?_
 refine z16 ?_
 exact y8
 refine w6 ?_
 refine Qb<|QW ⟨i+1,f,j,h,by omega,rfl,(by (rw[t,ZN o,Wp (by unfold Wj; rw[QB ‹_›]; simp[*])]; done)),(by omega),rfl⟩ (by omega) ?_
 exact wo []
 refine w2 ?_
 refine lc (Qu (Qa rfl) (QC 43 rfl) rfl) ?_
 refine w_ ?_
 cases A:(decide (c4=43))
 have I:=aa A
 refine w6 ?_
 refine lgy rfl rfl (Qu (Qa rfl) (QC 45 rfl) rfl) ?_
 refine w_ ?_
 cases B:(decide (c4=45))
 have J:=aa B
 refine w12 ?_
 refine UE (N _ ⟨false,ps,cs,as_,(by unfold Yf; rw[QB (p:=p.1) ‹_›]; simp[*]),(by (rw[Qjv (by unfold Yf; rw[QB (p:=p.1) ‹_›]; simp[*])]; done)),(by (exact ⟨by omega,by omega,by omega⟩)),rfl⟩) ?_
 exact wo [(7,5),(8,3),(9,4)]
 have J:=ab B
 refine w10 ?_
 cases C:(p.2)
 refine w2 ?_
 refine UE (N _ ⟨false,ps,cs,as_,(by unfold Yf; rw[QB (p:=p.1) ‹_›]; simp[*]),(by (rw[Qjv (by unfold Yf; rw[QB (p:=p.1) ‹_›]; simp[*])]; done)),(by (exact ⟨by omega,by omega,by omega⟩)),rfl⟩) ?_
 exact wp [(7,5),(8,3),(9,4)] ⟨rfl,rfl,rfl,(congrArg (fun z_=>some (Ent.box 555 [dI p.1,dB z_])) ((C).symm)),rfl,rfl,rfl,trivial⟩
 refine w6 ?_
 refine lc (Qu (Qa rfl) (QC 43 rfl) rfl)<|lc (Qi VB ⟨_,_,rfl,(Qk rfl),⟨_,_,rfl,(Qk rfl),rfl⟩⟩ (ak.1 rfl) rfl rfl) ?_
 refine w2 ?_
 refine alI 54 fun _=> ?_
 refine w3 ?_
 refine lc (Qi Va ⟨_,_,rfl,(Qk rfl),⟨_,_,rfl,(Qk rfl),rfl⟩⟩ (ak.1 rfl) rfl rfl) ?_
 refine lc (dP 50 [] (Zc c d ss cs as_ ps k ((c.1.length:Int),decide (c4=43)) (p.1, !true) (by refine ⟨?_, ?_⟩ <;> (try dsimp only) <;> omega) F (by omega) (by omega)) Xr) ?_
 refine w_ ?_
 refine UE (N _ ⟨true,(psP ps (p.1, !true)),(cdP c ps cs (p.1, !true)),(as_++[(k,((c.1.length:Int),decide (c4=43)).1,((c.1.length:Int),decide (c4=43)).2,ixP ps (p.1, !true))]),(by unfold Yf; rw[QB (p:=p.1) ‹_›]; simp[*]),(by (rw[QeN (by unfold Yf; rw[QB (p:=p.1) ‹_›]; simp[*]),QB ‹_›]; simp[K8, *]; done)),(by (exact ⟨XZ,XW,by simp⟩)),rfl⟩) ?_
 exact wp [(7,55),(8,53),(9,54)] ⟨rfl,rfl,rfl,(congrArg (fun z_=>some (Ent.box 555 [dI p.1,dB z_])) ((C).symm)),rfl,rfl,rfl,trivial⟩
 have I:=ab A
 refine w5 ?_
 cases D:(p.2)
 refine w3 ?_
 refine Qf rfl rfl rfl ?_ rfl
 refine Qf rfl rfl rfl ?_ rfl
 refine w14 ?_
 refine lc (Qu (Qa rfl) (QC 43 rfl) rfl)<|lc (Qi VB ⟨_,_,rfl,(Qk rfl),⟨_,_,rfl,(Qk rfl),rfl⟩⟩ (ak.1 rfl) rfl rfl) ?_
 refine w2 ?_
 refine alI 54 fun _=> ?_
 refine w3 ?_
 refine lc (Qi Va ⟨_,_,rfl,(Qk rfl),⟨_,_,rfl,(Qk rfl),rfl⟩⟩ (ak.1 rfl) rfl rfl) ?_
 refine lc (dP 56 [] (Zc c d ss cs as_ ps k ((c.1.length:Int),decide (c4=43)) (p.1, !false) (by refine ⟨?_, ?_⟩ <;> (try dsimp only) <;> omega) F (by omega) (by omega)) Xr) ?_
 refine w_ ?_
 refine UE (N _ ⟨true,(psP ps (p.1, !false)),(cdP c ps cs (p.1, !false)),(as_++[(k,((c.1.length:Int),decide (c4=43)).1,((c.1.length:Int),decide (c4=43)).2,ixP ps (p.1, !false))]),(by unfold Yf; rw[QB (p:=p.1) ‹_›]; simp[*]),(by (rw[QeN (by unfold Yf; rw[QB (p:=p.1) ‹_›]; simp[*]),QB ‹_›]; simp[K8, *]; done)),(by (exact ⟨XZ,XW,by simp⟩)),rfl⟩) ?_
 exact wp [(7,61),(8,59),(9,60)] ⟨rfl,rfl,rfl,(congrArg (fun z_=>some (Ent.box 555 [dI p.1,dB z_])) ((D).symm)),rfl,rfl,rfl,trivial⟩
 refine w_ ?_
 refine lgy rfl rfl (Qu (Qa rfl) (QC 45 rfl) rfl) ?_
 refine w_ ?_
 have E:(decide (c4=45))=false:=aB fun g=>absurd ((ab (A)).symm.trans g) (by decide)
 have S:=aa E
 try rw[E]
 refine w12 ?_
 refine UE (N _ ⟨false,ps,cs,as_,(by unfold Yf; rw[QB (p:=p.1) ‹_›]; simp[*]),(by (rw[Qjv (by unfold Yf; rw[QB (p:=p.1) ‹_›]; simp[*])]; done)),(by (exact ⟨by omega,by omega,by omega⟩)),rfl⟩) ?_
 exact wp [(7,5),(8,3),(9,4)] ⟨rfl,rfl,rfl,(congrArg (fun z_=>some (Ent.box 555 [dI p.1,dB z_])) ((D).symm)),rfl,rfl,rfl,trivial⟩
end Go.Proofs.YtndabgcpnmeeoaaGreat
