/- Walks over abstract states: the reference puts a signal in. -/
import Derived.Test.YtndabgcpnmeeoaaGreatPVf
set_option linter.unusedSimpArgs false
set_option linter.unusedVariables false
set_option linter.unusedSectionVars false
namespace Go.Proofs.YtndabgcpnmeeoaaGreat
open Go.RowKit
set_option maxRecDepth 100000
set_option maxHeartbeats 4000000
def vB (b:Bool):Int:=if b then 1 else 0
def ZD (p:PSt):Int:=2*p.1+vB p.2
def Qds (x:UInt8)(v:Int):Bool:=if x=48 then decide (v=0) else if x=49 then decide (v=1) else true
section
variable {c:DSg}{s:ByteArray}{ps:List PSt}{p:PSt}{cs:List ByteArray}{i:Nat}{k v z q:Int}{code:ByteArray}{a:DAr}
theorem JK (b:Bool):vB b=0∨vB b=1:=by cases b <;> simp[vB]
theorem QgZ (b:Bool):decide (vB b=1)=b:=by cases b <;> rfl
theorem Qcn (hv:v=0∨v=1):ZD p=2*k+v↔p=(k,decide (v=1)):=by
 obtain ⟨x,b⟩:=p
 simp only[ZD,Prod.mk.injEq]
 have:=JK b
 constructor
 ·intro h
  have d:x=k:=by omega
  have e:vB b=v:=by omega
  refine ⟨d, ?_⟩
  rw[← e,QgZ]
 ·rintro ⟨rfl,rfl⟩
  rcases hv with rfl | rfl <;> rfl
theorem QsA {α:Type _}[BEq α][LawfulBEq α]{l:List α}{i:Nat}{x:α}(h:l[i]? =some x)(b:∀j,j < i→l[j]? ≠some x):l.idxOf x=i:=by
 induction l generalizing i with
 | nil=>simp at h
 | cons y l e=>
  cases i with
  | zero=>simp at h; subst h; simp
  | succ i=>
   have d:y≠x:=by have:=b 0 (by omega); simpa using this
   rw[List.idxOf_cons,show (y==x)=false by simpa using d]
   simp only[cond_false]
   rw[e (by simpa using h) fun j f=>by have:=b (j+1) (by omega); simpa using this]
abbrev Qjf (k v:Int):Int→Bool:=fun z=>decide (z=2*k+v)
theorem Qgt (h:(ps.map ZD)[i]? =some z):∃p,ps[i]? =some p∧z=ZD p:=by
 rw[bf] at h
 cases b:ps[i]? with
 | none=>rw[b] at h; cases h
 | some p=>rw[b] at h; exact ⟨p,rfl,(cC h).symm⟩
theorem Qtr (hv:v=0∨v=1)(f:NoneTo (Qjf k v) (ps.map ZD) i)(l:(ps.map ZD)[i]? =some z)(m:z=2*k+v):ps[i]? =some (k,decide (v=1))∧(i:Int)=ixP ps (k,decide (v=1)):=by
 obtain ⟨p,b,d⟩:=Qgt l
 have e:=(Qcn hv).1 (d.symm.trans m)
 rw[e] at b
 refine ⟨b, ?_⟩
 unfold ixP
 rw[QsA b fun j g h=> ?_]
 have:=f j g (ZD (k,decide (v=1))) (by rw[bf,h]; rfl)
 simp only[bE] at this
 exact this ((Qcn hv).2 rfl)
theorem Qxl (hv:v=0∨v=1)(b:NoneTo (Qjf k v) (ps.map ZD) i)(d:(ps.map ZD)[i]? =some z)(e:z=2*k+v):(i:Int)=ixP ps (k,decide (v=1)):=(Qtr hv b d e).2
theorem Qxj (hv:v=0∨v=1)(b:NoneTo (Qjf k v) (ps.map ZD) i)(d:(ps.map ZD)[i]? =some z)(e:z=2*k+v):ps.map ZD=(psP ps (k,decide (v=1))).map ZD:=by
 unfold psP; rw[if_pos (ah (Qtr hv b d e).1)]
theorem Qxh (hv:v=0∨v=1)(b:NoneTo (Qjf k v) (ps.map ZD) i)(d:(ps.map ZD)[i]? =some z)(e:z=2*k+v):cs=cdP c ps cs (k,decide (v=1)):=by
 unfold cdP; rw[if_pos (ah (Qtr hv b d e).1)]
theorem Qol (hv:v=0∨v=1)(d:NoneTo (Qjf k v) (ps.map ZD) i)(hi:ps.length≤i):(k,decide (v=1))∉ps:=fun e=>by
 obtain ⟨j,b⟩:=aN.1 e
 have f:=(ai.1 b).1
 have:=d j (by omega) (ZD (k,decide (v=1))) (by rw[bf,b]; rfl)
 simp only[bE] at this
 exact this ((Qcn hv).2 rfl)
theorem Qxk (hv:v=0∨v=1)(b:NoneTo (Qjf k v) (ps.map ZD) i)(hi:ps.length≤i):(((ps.map ZD)++[2*k+v]).length:Int) - 1=ixP ps (k,decide (v=1)):=by
 unfold ixP; rw[List.idxOf_eq_length (Qol hv b hi)]; simp
theorem Qxi (hv:v=0∨v=1)(b:NoneTo (Qjf k v) (ps.map ZD) i)(hi:ps.length≤i):ps.map ZD++[2*k+v]=(psP ps (k,decide (v=1))).map ZD:=by
 unfold psP; rw[if_neg (Qol hv b hi),bl,List.map_singleton,(Qcn hv).2 rfl]
theorem Qxg (hv:v=0∨v=1)(b:NoneTo (Qjf k v) (ps.map ZD) i)(hi:ps.length≤i)(d:c.2.1[k.toNat]? =some code):cs++[code++⟨#[UInt8.ofNat (48+v).toNat]⟩]=cdP c ps cs (k,decide (v=1)):=by
 unfold cdP; rw[if_neg (Qol hv b hi),Vn d]
 rcases hv with rfl | rfl <;> rfl
theorem QkX:ZD p / 2=p.1:=by have:=JK p.2; unfold ZD; omega
theorem QsE:ZD p % 2=vB p.2:=by have:=JK p.2; unfold ZD; omega
theorem Qlr (b:Qds (bAt s a.2.2.2) (vB p.2)=false):Wj s p a=true:=by
 unfold Qds at b
 unfold Wj
 cases d:p.2 <;> rw[d] at b <;> revert b <;> (repeat' split) <;> simp_all [vB]
theorem Qok (d:a.1=p.1)(b:ZK s a=true)(f:(decide (bAt s p.1=43)==decide (vB p.2=0))=true):Wj s p a=true:=by
 unfold Wj
 rw[b]
 have:Yf s p=true:=by
  unfold ZK at b
  unfold Yf
  rw[d] at b
  cases e:p.2 <;> rw[e] at f <;> simp_all [vB]
 simp[this]
theorem Qls (h:a.1=p.1)(e:Qds (bAt s a.2.2.2) (vB p.2)=true)(b:ZK s a=false∨(decide (bAt s p.1=43)==decide (vB p.2=0))=false):Wj s p a=false:=by
 have g:(Yf s p&&ZK s a)=false:=by
  rcases b with b | b
  ·rw[b,Bool.and_false]
  ·cases f:ZK s a with
   | false=>rw[Bool.and_false]
   | true=>
    unfold ZK at f
    unfold Yf
    rw[h] at f
    cases d:p.2 <;> rw[d] at b <;> simp_all [vB]
 unfold Wj
 rw[g]
 unfold Qds at e
 cases d:p.2 <;> rw[d] at e <;> revert e <;> (repeat' split) <;> simp_all [vB]
theorem QtE (h:Yf s p=true):(bAt s p.1=43∧p.2=false)∨(bAt s p.1=45∧p.2=true):=by
 unfold Yf at h
 simpa using h
theorem Qs6 {st:Ins}(b:bAt s p.1=43)(d:vB p.2=0):Qeo c s st q p=K8 c st q ((c.1.length:Int),true) (p.1,decide ((1:Int)=1)):=by
 have e:p.2=false:=by cases h:p.2 <;> rw[h] at d <;> simp[vB] at d
 rw[QeN (by unfold Yf; rw[b,e]; rfl),b,e]; rfl
theorem QqS {st:Ins}(b:bAt s p.1=45)(d:vB p.2=1):Qeo c s st q p=K8 c st q ((c.1.length:Int),false) (p.1,decide ((0:Int)=1)):=by
 have e:p.2=true:=by cases h:p.2 <;> rw[h] at d <;> simp[vB] at d
 rw[QeN (by unfold Yf; rw[b,e]; rfl),b,e]; rfl
theorem QgK {st:Ins}(e:bAt s p.1=43→¬vB p.2=0)(f:bAt s p.1=45→¬vB p.2=1):Qeo c s st q p=st:=by
 refine Qjv ?_
 cases h:Yf s p with
 | false=>rfl
 | true=>
  rcases QtE h with ⟨b,d⟩ | ⟨b,d⟩
  ·exact absurd (by rw[d]; rfl) (e b)
  ·exact absurd (by rw[d]; rfl) (f b)
end
theorem QaD (n:Int)(t:0≤n∧n≤9):FC Tryz.prog 491 [(false,[dI n])] [] 0 (QY (lf (dS (⟨#[UInt8.ofNat (48+n).toNat]⟩:ByteArray)))):=by
 have d:decide (n < 10)=true:=aL (by omega)
 refine Qv Tryz.func491 rfl rfl Tryz.ntmps491 fun o l m g r j h=> ?_
 refine acI 0 fun _=> ?_
 refine w8 ?_
 cases b:(decide (n < 10))
 exact absurd (b.symm.trans (show (decide (n < 10))=true from d)) (by decide)
 have f:=ab b
 refine w4 ?_
 refine lc (QhA (Qa rfl) Qiz Wq (by omega) (by omega) rfl) ?_
 refine lc (dBs 0 (e:= .u8) QaL) ?_
 refine lc (Q7 (ys:=[UInt8.ofNat (48+n).toNat]) (YA (Qa rfl) rfl) Za Wq Z7 rfl) ?_
 refine w3 ?_
 exact fe_ l
theorem Zx (c:DSg)(b:ByteArray)(ps:List PSt)(ss:List QM)(cs:List ByteArray)(as_:List DAr)(k:Int)(v:Int)(L:0≤k∧k < (c.2.1.length:Int))(hv:v=0∨v=1)(D:∀x∈c.2.1,x.size≤1000)(J:ps.length≤1000000∧cs.length≤1000000)(K:c.2.1.length≤1000000):FC Tryz.prog 550 [(false,[.ptr 0 0]),(false,[dI k]),(false,[dI v])] [bx 0 530 [.dat Ql c.1, .dat Qo c.2.1, .dat Qw c.2.2,dS b, .ref 3, .ref 1, .ref 4, .ref 2],ar 3 3 .int (ps.map ZD),ar 1 77 QE ss,ar 4 9 .str cs,ar 2 154 QD as_] 3 (Is (lI (ixP ps (k,decide (v=1)))) [bx 0 530 [.dat Ql c.1, .dat Qo c.2.1, .dat Qw c.2.2,dS b, .ref 3, .ref 1, .ref 4, .ref 2],ar 3 3 .int ((psP ps (k,decide (v=1))).map ZD),ar 1 77 QE ss,ar 4 9 .str (cdP c ps cs (k,decide (v=1))),ar 2 154 QD as_]):=by
 have E:(ps.map ZD).length=ps.length:=aF ..
 refine Qv Tryz.func550 rfl rfl Tryz.ntmps550 fun H u F y I C B=> ?_
 refine acI 1 fun _=> ?_
 refine acI 2 fun _=> ?_
 refine w13 ?_
 refine lpK ps.length (fun i=>NoneTo (Qjf k v) (ps.map ZD) i) (fun i=>⟨[(0,lP 0 0),(1,lI k),(2,lI v),(12,lR 3),(13,lI ((ps.map ZD).length:Int)),(14,lI (i:Int))],[bx 0 530 [.dat Ql c.1, .dat Qo c.2.1, .dat Qw c.2.2,dS b, .ref 3, .ref 1, .ref 4, .ref 2],ar 1 77 QE ss,ar 2 154 QD as_,ar 3 3 .int (ps.map ZD),ar 4 9 .str cs]⟩) (NoneTo.zero) ?_ fun i _ h=> ?_
 exact wo []
 refine w4 ?_
 cases l:(decide ((i:Int) < ((ps.map ZD).length:Int)))
 have m:=aa l
 refine w10 ?_
 refine lc (Wu (Qy rfl) (Qa rfl) rfl (by first | omega | (simp only[aj,aF,au,aH]; omega))) ?_
 refine w_ ?_
 refine lc (J4 (Qa rfl) (Qa rfl) rfl (by first | omega | (simp only[aj,aF,au,aH]; omega))) ?_
 refine lc (dBs 5 (e:= .int) Yk) ?_
 refine lc (dA 6 XP) ?_
 refine w4 ?_
 obtain ⟨t,r⟩:=gx c.2.1 ((k).toNat)
 have o:=D _ (ah r)
 apply dW (i9 40 _ _ _ _ _ _ _ _ _ (i6 49 _ _ _ _ _ _ (io 55 (lf (dS (⟨#[UInt8.ofNat (48+v).toNat]⟩:ByteArray))) :: io 56 (lf (dS (t++(⟨#[UInt8.ofNat (48+v).toNat]⟩:ByteArray)))) :: ⟨some 57,lR 7,[ar 7 9 .str ([t++(⟨#[UInt8.ofNat (48+v).toNat]⟩:ByteArray)])]⟩ :: ⟨some 58,lR 8,[ar 8 9 .str (cs++([t++(⟨#[UInt8.ofNat (48+v).toNat]⟩:ByteArray)])),(4,none),(7,none)]⟩ :: i3 59 _ _ _ [⟨none,lf (.val undef),[bx 0 530 [.dat Ql c.1, .dat Qo c.2.1, .dat Qw c.2.2,dS b, .ref 6, .ref 1, .ref 8, .ref 2]]⟩]))) [0,1,1,1,1,1,63,63,63,63,63,2047,63,63,16383,16383,63,63,1,0,0,0,0]
 refine z15 ?_
 refine zz (fun _ d=>ac (dK (QaD v (by omega)) QfR) rfl) ?_
 refine zz (fun _ d=>ac (YN (d.v rfl) (d.v rfl) rfl (by first | omega | (simp only[Jc]; omega))) rfl) ?_
 refine zz (fun _ d=>ac (dBs 7 (e:= .str) HQ) rfl) ?_
 refine zz (fun _ d=>ac (dA 8 QhM) rfl) ?_
 refine z3 ?_
 refine zz (fun _ d=>ac (Q0 (d.v rfl) (d.en 0 rfl) (d.w rfl) (by simp only[Q4,Vu,ba,bA]; rw[(d.en 8 rfl)]; rfl) QtD rfl) rfl) ?_
 exact zN
 refine w6 ?_
 refine lc (Qe7 (Qa rfl) (Qy rfl) rfl (by first | omega | (simp only[aj,aF,au,aH]; omega))) ?_
 refine w3 ?_
 have A:((((ps.map ZD)++([(2*k)+v])).length:Int) - 1:Int)=(ixP ps (k,decide (v=1))):=by
  exact Qxk hv h (by omega)
 exact fi_ [(3,6),(4,8)] u ⟨rfl,(Qe (by exact Qxi hv h (by omega))),rfl,(Qe (by exact Qxg hv h (by omega) ‹_›)),rfl,trivial⟩ (h0:=by rw[A] <;> rfl)
 have m:=ab l
 refine w7 ?_
 obtain ⟨G,f⟩:=gx (ps.map ZD) i
 refine w_ ?_
 refine alI 18 fun _=> ?_
 refine w6 ?_
 refine lc (Wu (Qy rfl) (Qa rfl) rfl (by first | omega | (simp only[aj,aF,au,aH]; omega))) ?_
 refine w_ ?_
 refine lc (J4 (Qa rfl) (Qa rfl) rfl (by first | omega | (simp only[aj,aF,au,aH]; omega))) ?_
 refine w2 ?_
 cases g:(decide (G=((2*k)+v)))
 have j:=aa g
 refine w4 ?_
 refine lc (J4 (Qa rfl) (Qy rfl) rfl (by first | omega | (simp only[aj,aF,au,aH]; omega))) ?_
 refine w_ ?_
 refine Qb ?_
 refine lK_ (h.step f ‹_›) ?_
 exact wo []
 have j:=ab g
 refine w6 ?_
 have n:((i:Int):Int)=(ixP ps (k,decide (v=1))):=by
  exact Qxl hv h f ‹_›
 exact fi_ [] u ⟨rfl,(Qe (by exact Qxj hv h f ‹_›)),rfl,(Qe (by exact Qxh hv h f ‹_›)),rfl,trivial⟩ (h0:=by rw[n] <;> rfl)
theorem KF (c:DSg)(b:ByteArray)(ps:List PSt)(ss:List QM)(cs:List ByteArray)(as_:List DAr)(k:Int)(v:Int)(t:0≤k∧k < (b.size:Int)):FC Tryz.prog 574 [(false,[.ptr 0 0]),(false,[dI k]),(false,[dI v])] [bx 0 530 [.dat Ql c.1, .dat Qo c.2.1, .dat Qw c.2.2,dS b, .ref 1, .ref 2, .ref 3, .ref 4],ar 1 3 .int (ps.map ZD),ar 2 77 QE ss,ar 3 9 .str cs,ar 4 154 QD as_] 5 (Is (lB (Qds (bAt b k) v)) [bx 0 530 [.dat Ql c.1, .dat Qo c.2.1, .dat Qw c.2.2,dS b, .ref 1, .ref 2, .ref 3, .ref 4],ar 1 3 .int (ps.map ZD),ar 2 77 QE ss,ar 3 9 .str cs,ar 4 154 QD as_]):=by
 refine Qv Tryz.func574 rfl rfl Tryz.ntmps574 fun o d n e r l j=> ?_
 refine acI 1 fun _=> ?_
 refine acI 2 fun _=> ?_
 refine w10 ?_
 obtain ⟨c3,m⟩:=gs b ((k).toNat)
 refine w4 ?_
 refine lc (Qu (Qa rfl) (QC 48 rfl) rfl) ?_
 refine w2 ?_
 refine cd_ (fun _ _=> ?_) fun _ _=> ?_
 refine w_ ?_
 refine lc (Qu (Qa rfl) (QC 49 rfl) rfl) ?_
 refine w2 ?_
 refine cd_ (fun _ _=> ?_) fun _ _=> ?_
 refine w6 ?_
 have f:(true:Bool)=(Qds (bAt b k) v):=by
  first | (unfold Qds; rw[QB ‹_›]; simp[*]; done)
 exact fi_ [] d ⟨rfl,rfl,rfl,rfl,rfl,trivial⟩ (h0:=by rw[← f] <;> rfl)
 refine w6 ?_
 have g:(decide (v=1):Bool)=(Qds (bAt b k) v):=by
  first | (unfold Qds; rw[QB ‹_›]; simp[*]; done)
 exact fi_ [] d ⟨rfl,rfl,rfl,rfl,rfl,trivial⟩ (h0:=by rw[g] <;> rfl)
 refine w6 ?_
 have h:(decide (v=0):Bool)=(Qds (bAt b k) v):=by
  first | (unfold Qds; rw[QB ‹_›]; simp[*]; done)
 exact fi_ [] d ⟨rfl,rfl,rfl,rfl,rfl,trivial⟩ (h0:=by rw[h] <;> rfl)
theorem Qb6 (c:DSg)(b:ByteArray)(ps:List PSt)(ss:List QM)(cs:List ByteArray)(as_:List DAr)(q:Int)(hk:0≤q∧q < (ps.length:Int))(M:SignsOk c b)(Q:∀p∈ps,0≤p.1∧p.1 < (c.2.1.length:Int))(hl:ps.length≤10000∧cs.length≤10000∧as_.length≤90000000):FC Tryz.prog 551 [(false,[.ptr 0 0]),(false,[dI q])] [bx 0 530 [.dat Ql c.1, .dat Qo c.2.1, .dat Qw c.2.2,dS b, .ref 2, .ref 1, .ref 3, .ref 4],ar 2 3 .int (ps.map ZD),ar 1 77 QE ss,ar 3 9 .str cs,ar 4 154 QD as_] 2 (Is (PV.tup []) [bx 0 530 [.dat Ql c.1, .dat Qo c.2.1, .dat Qw c.2.2,dS b, .ref 2, .ref 1, .ref 3, .ref 4],ar 2 3 .int (((VU c b (ps,cs,as_) q).1).map ZD),ar 1 77 QE ss,ar 3 9 .str ((VU c b (ps,cs,as_) q).2.1),ar 4 154 QD ((VU c b (ps,cs,as_) q).2.2)]):=by
 have c1:=M.2.1
 have b8:=M.2.2.some_
 have b2:=M.2.2.few
 have c0:=UA M.2.2.sigs
 have U:∀x∈c.2.1,x.size≤1000:=fun x hx=>by have:=(M.2.2.codes x hx).2; omega
 have b7:(ps.map ZD).length=ps.length:=aF ..
 refine Qv Tryz.func551 rfl rfl Tryz.ntmps551 fun O_ hO c3 a8 X_ b0 a9=> ?_
 refine acI 1 fun _=> ?_
 obtain ⟨z,D⟩:=gx (ps.map ZD) ((q).toNat)
 have a7:0≤z:=by obtain ⟨p_,V,W⟩:=Qgt D; have:=Q _ (ah V); have:=JK p_.2; rw[W]; unfold ZD; omega
 apply dW (i5 10 _ _ _ _ _ (io 15 (lf (.ept 2 1 ((q).toNat) 0)) :: io 16 (lI z) :: io 17 (lI (z / 2)) :: i5 18 _ _ _ _ _ (io 23 (lf (.ept 2 1 ((q).toNat) 0)) :: io 24 (lI z) :: io 25 (lI (z % 2)) :: i2 4 _ _ []))) [0,0,0,0,15,0,0,0,255,255,255,255,4095,255,255,255,65280,0]
 refine z5 ?_
 refine zz (fun _ d=>ac (QI (e:= .int) (d.v rfl) (d.en 2 rfl) (d.v rfl) Z6 Y6 rfl (by omega) (by first | omega | (simp only[ap]; omega))) rfl)<|zz (fun _ d=>ac (Q5 (e:= .int) (d.v rfl) (d.n 2 rfl) D rfl Y6 rfl rfl) rfl)<|zz (fun _ d=>ac (Qe6 (d.v rfl) (Qy rfl) rfl (by omega) (by omega)) rfl) ?_
 refine z5 ?_
 refine zz (fun _ d=>ac (QI (e:= .int) (d.v rfl) (d.en 2 rfl) (d.v rfl) Z6 Y6 rfl (by omega) (by first | omega | (simp only[ap]; omega))) rfl)<|zz (fun _ d=>ac (Q5 (e:= .int) (d.v rfl) (d.n 2 rfl) D rfl Y6 rfl rfl) rfl)<|zz (fun _ d=>ac (J9 (d.v rfl) (Qy rfl) rfl (by omega) (by omega)) rfl) ?_
 exact y2
 refine XM ?_
 obtain ⟨p,R,S⟩:=Qgt D
 have a0:z / 2=p.1:=by rw[S]; exact QkX
 have a1:z % 2=vB p.2:=by rw[S]; exact QsE
 rw[a0,a1]
 have b9:=Q _ (ah R)
 have b1:=Qcf (l:=c.2.2) (q:=p.1)
 have c2:=JK p.2
 refine w6 ?_
 refine alL 30 fun _=> ?_
 refine w3 ?_
 refine QeX (fun T=>∃(A:List ByteArray) (y:List (Int×Int×Bool×Int)) (B:List PSt),((B,A,y)=Qeo c b (ps,cs,as_) q p)∧(B.length≤ps.length+1∧A.length≤cs.length+1∧y.length≤as_.length+1)∧T=⟨[(0,lP 0 0),(1,lI q),(4,lI p.1),(5,lI (vB p.2))],[bx 0 530 [.dat Ql c.1, .dat Qo c.2.1, .dat Qw c.2.2,dS b, .ref 5, .ref 1, .ref 6, .ref 7],ar 1 77 QE ss,ar 5 3 .int (B.map ZD),ar 6 9 .str A,ar 7 154 QD y]⟩) ?_ fun N=> ?_
 rintro T ⟨A,y,B,hP,b4,rfl⟩
 refine w6 ?_
 refine lc (dK (Qgc c p.1 (by omega)).frozen Qnt) ?_
 refine alL 93 fun _=> ?_
 refine w4 ?_
 refine QP (fun m_ T=>∃(i:Nat) (o:List ByteArray) (m:List (Int×Int×Bool×Int)) (j:List PSt),i≤(Z9 c.2.2 p.1).length∧m_=(Z9 c.2.2 p.1).length - i∧(VU c b (ps,cs,as_) q=((Z9 c.2.2 p.1).drop i).foldl (HL c b q p) (j,o,m))∧(j.length≤ps.length+1+i∧o.length≤cs.length+1+i∧m.length≤as_.length+1+i)∧T=⟨[(0,lP 0 0),(1,lI q),(4,lI p.1),(5,lI (vB p.2)),(93,lf (.dat Qw (Z9 c.2.2 p.1))),(94,lI ((Z9 c.2.2 p.1).length:Int)),(95,lI (i:Int))],[bx 0 530 [.dat Ql c.1, .dat Qo c.2.1, .dat Qw c.2.2,dS b, .ref 8, .ref 1, .ref 9, .ref 10],ar 1 77 QE ss,ar 8 3 .int (j.map ZD),ar 9 9 .str o,ar 10 154 QD m]⟩) ⟨0,A,y,B,aG _,rfl,(by rw[hP]; exact QoZ R),(by omega),rfl⟩ ?_ ?_
 exact wo [(8,5),(9,6),(10,7)]
 rintro m_ T ⟨i,o,m,j,b3,b6,E,b5,rfl⟩
 refine w4 ?_
 cases O:(decide ((i:Int) < ((Z9 c.2.2 p.1).length:Int)))
 have P:=aa O
 refine w2 ?_
 refine (?_:fin _ _ _ _ .normal _)
 exact fi_ [(2,8),(3,9),(4,10)] hO ⟨rfl,(Qe (by (rw[E,Uq (by omega)]; done))),rfl,(Qe (by (rw[E,Uq (by omega)]; done))),(Qe (by (rw[E,Uq (by omega)]; done))),trivial⟩
 have P:=ab O
 refine w5 ?_
 obtain ⟨f,r⟩:=gx (Z9 c.2.2 p.1) i
 have t:=Qgl.1 (ah r)
 have Z:=M.at_ t.1
 refine w2 ?_
 refine lc (xal 11 QD QU) ?_
 refine w2 ?_
 cases F:(ZK b f)
 apply dW (i5 99 _ _ _ _ _ (io 104 (lB false) :: i9 105 _ _ _ _ _ _ _ _ _ (i3 114 _ _ _ [io 9 _]))) [0,0,0,0,15,0,0,0,0,0,0,1920,0,0,16256,16256,0,0,0]
 refine z5 ?_
 refine zz (fun _ d=>ac (QH (F) (dK (WY b f (by omega) (by omega)) Qa5)) rfl) ?_
 exact y13
 refine w4 ?_
 refine alI 119 fun _=> ?_
 refine w_ ?_
 refine lc (dP 12 [(1,8),(2,1),(3,9),(4,10)] (KF c b j ss o m f.2.2.2 (vB p.2) (by omega)) QfX) ?_
 refine w_ ?_
 cases a2:(Qds (bAt b f.2.2.2) (vB p.2))
 refine w10 ?_
 refine Qb<|QW ⟨i+1,o,m,j,by omega,rfl,(by (rw[E,ZN r,Wp (Qlr ‹_›)]; done)),(by omega),rfl⟩ (by omega) ?_
 exact wo []
 refine w5 ?_
 apply dV (i2 126 _ _ (io 128 (lP 0 0) :: io 129 (lP 0 5) :: io 130 (lP 0 7) :: io 131 (lR 10) :: i9 132 _ _ _ _ _ _ _ _ _ (⟨some 141,lI (ixP j (f.2.2.2,decide ((vB p.2)=1))),[bx 0 530 [.dat Ql c.1, .dat Qo c.2.1, .dat Qw c.2.2,dS b, .ref 20, .ref 1, .ref 21, .ref 10],ar 20 3 .int ((psP j (f.2.2.2,decide ((vB p.2)=1))).map ZD),ar 1 77 QE ss,ar 21 9 .str (cdP c j o (f.2.2.2,decide ((vB p.2)=1))),ar 10 154 QD m,(0,none),(8,none),(1,none),(9,none),(10,none)]⟩ :: io 142 (ag [dI q,dI f.2.1,dB f.2.2.1,dI (ixP j (f.2.2.2,decide ((vB p.2)=1)))]) :: ⟨some 143,lR 22,[ar 22 154 QD ([(q,f.2.1,f.2.2.1,ixP j (f.2.2.2,decide ((vB p.2)=1)))])]⟩ :: ⟨some 144,lR 23,[ar 23 154 QD (m++([(q,f.2.1,f.2.2.1,ixP j (f.2.2.2,decide ((vB p.2)=1)))])),(10,none),(22,none)]⟩ :: i3 145 _ _ _ [⟨none,lf (.val undef),[bx 0 530 [.dat Ql c.1, .dat Qo c.2.1, .dat Qw c.2.2,dS b, .ref 20, .ref 1, .ref 21, .ref 23]]⟩]))) [0,1,1,1,1,1,63,127,127,511,511,2047,4095,4095,16383,2047,63,63,1,0,0,0,0]
 refine z2 ?_
 refine zz (fun _ d=>by rcases d.en2 0 15 rfl with g | g <;> exact ac (Wb (d.v rfl) (by rw[g]; rfl) rfl) rfl)<|zz (fun _ d=>by rcases d.en2 0 15 rfl with g | g <;> exact ac (ZA (d.v rfl) H8 (by rw[g]; rfl) rfl) rfl)<|zz (fun _ d=>by rcases d.en2 0 15 rfl with g | g <;> exact ac (ZA (d.v rfl) Hy (by rw[g]; rfl) rfl) rfl)<|zz (fun _ d=>by rcases d.en2 0 15 rfl with g | g <;> exact ac (Xl (d.v rfl) g Kk rfl rfl) rfl) ?_
 refine z9 ?_
 refine zz (fun _ d=>ac (dP 17 [(2,10),(3,8),(4,9)] (Zx c b j ss o m f.2.2.2 (vB p.2) (by omega) (by omega) U (by omega) (by omega)) X5) rfl) ?_
 refine zz (fun _ d=>ac (Qi K9 ⟨_,_,rfl,(d.w rfl),⟨_,_,rfl,(d.w rfl),⟨_,_,rfl,(d.w rfl),⟨_,_,rfl,(d.w rfl),rfl⟩⟩⟩⟩ (ak.1 rfl) rfl rfl) rfl) ?_
 refine zz (fun _ d=>ac (dBs 22 (e:=QD) QU (hab:=by exact ⟨_,_,_,_,rfl,⟨[dI q],[dI f.2.1,dB f.2.2.1,dI (ixP j (f.2.2.2,decide ((vB p.2)=1)))],_,_,_,_,rfl,rfl,⟨rfl,rfl⟩,⟨[dI f.2.1],[dB f.2.2.1,dI (ixP j (f.2.2.2,decide ((vB p.2)=1)))],_,_,_,_,rfl,rfl,⟨rfl,rfl⟩,⟨[dB f.2.2.1],[dI (ixP j (f.2.2.2,decide ((vB p.2)=1)))],_,_,_,_,rfl,rfl,⟨rfl,rfl⟩,⟨rfl,rfl⟩,rfl⟩,rfl⟩,rfl⟩,⟨rfl,rfl⟩,rfl⟩)) rfl) ?_
 refine zz (fun _ d=>ac (dA 23 Ww) rfl) ?_
 refine z3 ?_
 refine zz (fun _ d=>ac (Q0 (d.v rfl) (d.en 0 rfl) (d.w rfl) (by simp only[Q4,Vu,ba,bA]; rw[(d.en 23 rfl)]; rfl) Kk rfl) rfl) ?_
 exact zN
 refine w4 ?_
 refine Qb<|QW ⟨i+1,(cdP c j o (f.2.2.2,decide ((vB p.2)=1))),(m++([(q,f.2.1,f.2.2.1,ixP j (f.2.2.2,decide ((vB p.2)=1)))])),(psP j (f.2.2.2,decide ((vB p.2)=1))),by omega,rfl,(by (rw[E,ZN r,Vx (Qls t.2 ‹_› (by first | exact .inl ‹_› | exact .inr (by rw[QB ‹_›]; assumption)))]; simp[K8,QgZ]; done)),(by (exact ⟨aU XZ (by omega),aU XW (by omega),by rw[aj]; simp; omega⟩)),rfl⟩ (by omega) ?_
 exact wp [(8,20),(9,21),(10,23)] ⟨rfl,rfl,rfl,rfl,(Qe (by first | rfl | simp)),trivial⟩
 obtain ⟨J,a5⟩:=gs b ((p.1).toNat)
 apply dW (i5 99 _ _ _ _ _ (io 104 (lB true) :: i7 105 _ _ _ _ _ _ _ (io 112 (lB (decide (J=43))) :: i2 113 _ _ [io 115 (lB ((decide (J=43))==(decide ((vB p.2)=0)))),io 116 _,io 9 _]))) [0,0,0,0,15,0,0,0,0,0,0,1920,0,0,16256,16256,0,0,0]
 refine z5 ?_
 refine zz (fun _ d=>ac (QH (F) (dK (WY b f (by omega) (by omega)) Qa5)) rfl) ?_
 refine z7 ?_
 refine zz (fun _ d=>day rfl (d.k rfl) (Qu (d.v rfl) (QC 43 rfl) rfl) rfl) ?_
 refine z2 ?_
 refine zz (fun _ d=>day rfl (d.k rfl) (HS (d.v rfl) (d.v rfl) rfl JU) rfl) ?_
 exact y2
 refine w4 ?_
 refine alI 119 fun _=> ?_
 refine w_ ?_
 refine lc (dP 24 [(1,8),(2,1),(3,9),(4,10)] (KF c b j ss o m f.2.2.2 (vB p.2) (by omega)) QfX) ?_
 refine w_ ?_
 cases a3:(Qds (bAt b f.2.2.2) (vB p.2))
 refine w10 ?_
 refine Qb<|QW ⟨i+1,o,m,j,by omega,rfl,(by (rw[E,ZN r,Wp (Qlr ‹_›)]; done)),(by omega),rfl⟩ (by omega) ?_
 exact wo []
 refine w4 ?_
 cases a4:((decide (J=43))==(decide ((vB p.2)=0)))
 refine w_ ?_
 apply dV (i2 126 _ _ (io 128 (lP 0 0) :: io 129 (lP 0 5) :: io 130 (lP 0 7) :: io 131 (lR 10) :: i9 132 _ _ _ _ _ _ _ _ _ (⟨some 141,lI (ixP j (f.2.2.2,decide ((vB p.2)=1))),[bx 0 530 [.dat Ql c.1, .dat Qo c.2.1, .dat Qw c.2.2,dS b, .ref 32, .ref 1, .ref 33, .ref 10],ar 32 3 .int ((psP j (f.2.2.2,decide ((vB p.2)=1))).map ZD),ar 1 77 QE ss,ar 33 9 .str (cdP c j o (f.2.2.2,decide ((vB p.2)=1))),ar 10 154 QD m,(0,none),(8,none),(1,none),(9,none),(10,none)]⟩ :: io 142 (ag [dI q,dI f.2.1,dB f.2.2.1,dI (ixP j (f.2.2.2,decide ((vB p.2)=1)))]) :: ⟨some 143,lR 34,[ar 34 154 QD ([(q,f.2.1,f.2.2.1,ixP j (f.2.2.2,decide ((vB p.2)=1)))])]⟩ :: ⟨some 144,lR 35,[ar 35 154 QD (m++([(q,f.2.1,f.2.2.1,ixP j (f.2.2.2,decide ((vB p.2)=1)))])),(10,none),(34,none)]⟩ :: i3 145 _ _ _ [⟨none,lf (.val undef),[bx 0 530 [.dat Ql c.1, .dat Qo c.2.1, .dat Qw c.2.2,dS b, .ref 32, .ref 1, .ref 33, .ref 35]]⟩]))) [0,1,1,1,1,1,63,127,127,511,511,2047,4095,4095,16383,2047,63,63,1,0,0,0,0]
 refine z2 ?_
 refine zz (fun _ d=>by rcases d.en2 0 15 rfl with g | g <;> exact ac (Wb (d.v rfl) (by rw[g]; rfl) rfl) rfl)<|zz (fun _ d=>by rcases d.en2 0 15 rfl with g | g <;> exact ac (ZA (d.v rfl) H8 (by rw[g]; rfl) rfl) rfl)<|zz (fun _ d=>by rcases d.en2 0 15 rfl with g | g <;> exact ac (ZA (d.v rfl) Hy (by rw[g]; rfl) rfl) rfl)<|zz (fun _ d=>by rcases d.en2 0 15 rfl with g | g <;> exact ac (Xl (d.v rfl) g Kk rfl rfl) rfl) ?_
 refine z9 ?_
 refine zz (fun _ d=>ac (dP 29 [(2,10),(3,8),(4,9)] (Zx c b j ss o m f.2.2.2 (vB p.2) (by omega) (by omega) U (by omega) (by omega)) X5) rfl) ?_
 refine zz (fun _ d=>ac (Qi K9 ⟨_,_,rfl,(d.w rfl),⟨_,_,rfl,(d.w rfl),⟨_,_,rfl,(d.w rfl),⟨_,_,rfl,(d.w rfl),rfl⟩⟩⟩⟩ (ak.1 rfl) rfl rfl) rfl) ?_
 refine zz (fun _ d=>ac (dBs 34 (e:=QD) QU (hab:=by exact ⟨_,_,_,_,rfl,⟨[dI q],[dI f.2.1,dB f.2.2.1,dI (ixP j (f.2.2.2,decide ((vB p.2)=1)))],_,_,_,_,rfl,rfl,⟨rfl,rfl⟩,⟨[dI f.2.1],[dB f.2.2.1,dI (ixP j (f.2.2.2,decide ((vB p.2)=1)))],_,_,_,_,rfl,rfl,⟨rfl,rfl⟩,⟨[dB f.2.2.1],[dI (ixP j (f.2.2.2,decide ((vB p.2)=1)))],_,_,_,_,rfl,rfl,⟨rfl,rfl⟩,⟨rfl,rfl⟩,rfl⟩,rfl⟩,rfl⟩,⟨rfl,rfl⟩,rfl⟩)) rfl) ?_
 refine zz (fun _ d=>ac (dA 35 Ww) rfl) ?_
 refine z3 ?_
 refine zz (fun _ d=>ac (Q0 (d.v rfl) (d.en 0 rfl) (d.w rfl) (by simp only[Q4,Vu,ba,bA]; rw[(d.en 35 rfl)]; rfl) Kk rfl) rfl) ?_
 exact zN
 refine w4 ?_
 refine Qb<|QW ⟨i+1,(cdP c j o (f.2.2.2,decide ((vB p.2)=1))),(m++([(q,f.2.1,f.2.2.1,ixP j (f.2.2.2,decide ((vB p.2)=1)))])),(psP j (f.2.2.2,decide ((vB p.2)=1))),by omega,rfl,(by (rw[E,ZN r,Vx (Qls t.2 ‹_› (by first | exact .inl ‹_› | exact .inr (by rw[QB ‹_›]; assumption)))]; simp[K8,QgZ]; done)),(by (exact ⟨aU XZ (by omega),aU XW (by omega),by rw[aj]; simp; omega⟩)),rfl⟩ (by omega) ?_
 exact wp [(8,32),(9,33),(10,35)] ⟨rfl,rfl,rfl,rfl,(Qe (by first | rfl | simp)),trivial⟩
 refine w6 ?_
 refine Qb<|QW ⟨i+1,o,m,j,by omega,rfl,(by (rw[E,ZN r,Wp (Qok t.2 ‹_› (by rw[QB ‹_›]; assumption))]; done)),(by omega),rfl⟩ (by omega) ?_
 exact wo []
 refine w7 ?_
 obtain ⟨C,a6⟩:=gs b ((p.1).toNat)
 refine w_ ?_
 refine lc (Qu (Qa rfl) (QC 43 rfl) rfl) ?_
 refine w_ ?_
 cases u:(decide (C=43))
 have K:=aa u
 refine w14 ?_
 refine lc (Qu (Qa rfl) (QC 45 rfl) rfl) ?_
 refine w_ ?_
 cases G:(decide (C=45))
 have L:=aa G
 refine w6 ?_
 refine UE (N _ ⟨cs,as_,ps,(by (rw[QgK (fun h=>by rw[QB ‹_›] at h; first | assumption | contradiction) (fun h=>by rw[QB ‹_›] at h; first | assumption | contradiction)]; done)),(by (exact ⟨by omega,by omega,by omega⟩)),rfl⟩) ?_
 exact wo [(5,2),(6,3),(7,4)]
 have L:=ab G
 refine w4 ?_
 refine cd_ (fun _ _=> ?_) fun _ _=> ?_
 refine w_ ?_
 refine UE (N _ ⟨cs,as_,ps,(by (rw[QgK (fun h=>by rw[QB ‹_›] at h; first | assumption | contradiction) (fun h=>by rw[QB ‹_›] at h; first | assumption | contradiction)]; done)),(by (exact ⟨by omega,by omega,by omega⟩)),rfl⟩) ?_
 exact wo [(5,2),(6,3),(7,4)]
 apply dZ (i2 71 _ _ (io 73 (lP 0 0) :: io 74 (lP 0 5) :: io 75 (lP 0 7) :: io 76 (lR 4) :: i4 77 _ _ _ _ (⟨some 81,lI (ixP ps (p.1,decide (0=1))),[bx 0 530 [.dat Ql c.1, .dat Qo c.2.1, .dat Qw c.2.2,dS b, .ref 39, .ref 1, .ref 40, .ref 4],ar 39 3 .int ((psP ps (p.1,decide (0=1))).map ZD),ar 1 77 QE ss,ar 40 9 .str (cdP c ps cs (p.1,decide (0=1))),ar 4 154 QD as_,(0,none),(2,none),(1,none),(3,none),(4,none)]⟩ :: io 82 (ag [dI q,dI (c.1.length:Int),dB false,dI (ixP ps (p.1,decide (0=1)))]) :: ⟨some 83,lR 41,[ar 41 154 QD ([(q,(c.1.length:Int),false,ixP ps (p.1,decide (0=1)))])]⟩ :: ⟨some 84,lR 42,[ar 42 154 QD (as_++([(q,(c.1.length:Int),false,ixP ps (p.1,decide (0=1)))])),(4,none),(41,none)]⟩ :: i3 85 _ _ _ [⟨none,lf (.val undef),[bx 0 530 [.dat Ql c.1, .dat Qo c.2.1, .dat Qw c.2.2,dS b, .ref 39, .ref 1, .ref 40, .ref 42]]⟩]))) [0,1,1,1,1,1,63,127,255,511,255,63,63,1,0,0,0,0]
 refine z2 ?_
 refine zz (fun _ d=>by rcases d.en2 0 10 rfl with g | g <;> exact ac (Wb (d.v rfl) (by rw[g]; rfl) rfl) rfl)<|zz (fun _ d=>by rcases d.en2 0 10 rfl with g | g <;> exact ac (ZA (d.v rfl) H8 (by rw[g]; rfl) rfl) rfl)<|zz (fun _ d=>by rcases d.en2 0 10 rfl with g | g <;> exact ac (ZA (d.v rfl) Hy (by rw[g]; rfl) rfl) rfl)<|zz (fun _ d=>by rcases d.en2 0 10 rfl with g | g <;> exact ac (Xl (d.v rfl) g Kk rfl rfl) rfl) ?_
 refine z4 ?_
 refine zz (fun _ d=>ac (dP 36 [(2,4),(3,2),(4,3)] (Zx c b ps ss cs as_ p.1 0 (by omega) (by omega) U (by omega) (by omega)) X5) rfl) ?_
 refine zz (fun _ d=>ac (Qi K9 ⟨_,_,rfl,(d.w rfl),⟨_,_,rfl,(d.w rfl),⟨_,_,rfl,(d.w rfl),rfl⟩⟩⟩ (ak.1 rfl) rfl rfl) rfl) ?_
 refine zz (fun _ d=>ac (dBs 41 (e:=QD) QU (hab:=by exact ⟨_,_,_,_,rfl,⟨[dI q],[dI (c.1.length:Int),dB false,dI (ixP ps (p.1,decide (0=1)))],_,_,_,_,rfl,rfl,⟨rfl,rfl⟩,⟨[dI (c.1.length:Int)],[dB false,dI (ixP ps (p.1,decide (0=1)))],_,_,_,_,rfl,rfl,⟨rfl,rfl⟩,⟨[dB false],[dI (ixP ps (p.1,decide (0=1)))],_,_,_,_,rfl,rfl,⟨rfl,rfl⟩,⟨rfl,rfl⟩,rfl⟩,rfl⟩,rfl⟩,⟨rfl,rfl⟩,rfl⟩)) rfl) ?_
 refine zz (fun _ d=>ac (dA 42 Ww) rfl) ?_
 refine z3 ?_
 refine zz (fun _ d=>ac (Q0 (d.v rfl) (d.en 0 rfl) (d.w rfl) (by simp only[Q4,Vu,ba,bA]; rw[(d.en 42 rfl)]; rfl) Kk rfl) rfl) ?_
 exact zN
 refine UE (N _ ⟨(cdP c ps cs (p.1,decide (0=1))),(as_++([(q,(c.1.length:Int),false,ixP ps (p.1,decide (0=1)))])),(psP ps (p.1,decide (0=1))),(by (rw[QqS (by rw[QB ‹_›]; assumption) ‹_›]; rfl)),(by (exact ⟨XZ,XW,by simp⟩)),rfl⟩) ?_
 exact wp [(5,39),(6,40),(7,42)] ⟨rfl,rfl,rfl,rfl,(Qe (by first | rfl | simp)),trivial⟩
 have K:=ab u
 refine w4 ?_
 refine cd_ (fun _ _=> ?_) fun _ _=> ?_
 refine w9 ?_
 refine lc (Qu (Qa rfl) (QC 45 rfl) rfl) ?_
 refine w_ ?_
 have H:(decide (C=45))=false:=aB fun d=>absurd ((ab (u)).symm.trans d) (by decide)
 have X:=aa H
 try rw[H]
 refine w6 ?_
 refine UE (N _ ⟨cs,as_,ps,(by (rw[QgK (fun h=>by rw[QB ‹_›] at h; first | assumption | contradiction) (fun h=>by rw[QB ‹_›] at h; first | assumption | contradiction)]; done)),(by (exact ⟨by omega,by omega,by omega⟩)),rfl⟩) ?_
 exact wo [(5,2),(6,3),(7,4)]
 apply dZ (i2 43 _ _ (io 45 (lP 0 0) :: io 46 (lP 0 5) :: io 47 (lP 0 7) :: io 48 (lR 4) :: i4 49 _ _ _ _ (⟨some 53,lI (ixP ps (p.1,decide (1=1))),[bx 0 530 [.dat Ql c.1, .dat Qo c.2.1, .dat Qw c.2.2,dS b, .ref 46, .ref 1, .ref 47, .ref 4],ar 46 3 .int ((psP ps (p.1,decide (1=1))).map ZD),ar 1 77 QE ss,ar 47 9 .str (cdP c ps cs (p.1,decide (1=1))),ar 4 154 QD as_,(0,none),(2,none),(1,none),(3,none),(4,none)]⟩ :: io 54 (ag [dI q,dI (c.1.length:Int),dB true,dI (ixP ps (p.1,decide (1=1)))]) :: ⟨some 55,lR 48,[ar 48 154 QD ([(q,(c.1.length:Int),true,ixP ps (p.1,decide (1=1)))])]⟩ :: ⟨some 56,lR 49,[ar 49 154 QD (as_++([(q,(c.1.length:Int),true,ixP ps (p.1,decide (1=1)))])),(4,none),(48,none)]⟩ :: i3 57 _ _ _ [⟨none,lf (.val undef),[bx 0 530 [.dat Ql c.1, .dat Qo c.2.1, .dat Qw c.2.2,dS b, .ref 46, .ref 1, .ref 47, .ref 49]]⟩]))) [0,1,1,1,1,1,63,127,255,511,255,63,63,1,0,0,0,0]
 refine z2 ?_
 refine zz (fun _ d=>by rcases d.en2 0 10 rfl with g | g <;> exact ac (Wb (d.v rfl) (by rw[g]; rfl) rfl) rfl)<|zz (fun _ d=>by rcases d.en2 0 10 rfl with g | g <;> exact ac (ZA (d.v rfl) H8 (by rw[g]; rfl) rfl) rfl)<|zz (fun _ d=>by rcases d.en2 0 10 rfl with g | g <;> exact ac (ZA (d.v rfl) Hy (by rw[g]; rfl) rfl) rfl)<|zz (fun _ d=>by rcases d.en2 0 10 rfl with g | g <;> exact ac (Xl (d.v rfl) g Kk rfl rfl) rfl) ?_
 refine z4 ?_
 refine zz (fun _ d=>ac (dP 43 [(2,4),(3,2),(4,3)] (Zx c b ps ss cs as_ p.1 1 (by omega) (by omega) U (by omega) (by omega)) X5) rfl) ?_
 refine zz (fun _ d=>ac (Qi K9 ⟨_,_,rfl,(d.w rfl),⟨_,_,rfl,(d.w rfl),⟨_,_,rfl,(Evl.ev Zb),⟨_,_,rfl,(d.w rfl),rfl⟩⟩⟩⟩ (ak.1 rfl) rfl rfl) rfl) ?_
 refine zz (fun _ d=>ac (dBs 48 (e:=QD) QU (hab:=by exact ⟨_,_,_,_,rfl,⟨[dI q],[dI (c.1.length:Int),dB true,dI (ixP ps (p.1,decide (1=1)))],_,_,_,_,rfl,rfl,⟨rfl,rfl⟩,⟨[dI (c.1.length:Int)],[dB true,dI (ixP ps (p.1,decide (1=1)))],_,_,_,_,rfl,rfl,⟨rfl,rfl⟩,⟨[dB true],[dI (ixP ps (p.1,decide (1=1)))],_,_,_,_,rfl,rfl,⟨rfl,rfl⟩,⟨rfl,rfl⟩,rfl⟩,rfl⟩,rfl⟩,⟨rfl,rfl⟩,rfl⟩)) rfl) ?_
 refine zz (fun _ d=>ac (dA 49 Ww) rfl) ?_
 refine z3 ?_
 refine zz (fun _ d=>ac (Q0 (d.v rfl) (d.en 0 rfl) (d.w rfl) (by simp only[Q4,Vu,ba,bA]; rw[(d.en 49 rfl)]; rfl) Kk rfl) rfl) ?_
 exact zN
 refine w8 ?_
 refine lc (Qu (Qa rfl) (QC 45 rfl) rfl) ?_
 refine w_ ?_
 have I:(decide (C=45))=false:=aB fun d=>absurd ((ab (u)).symm.trans d) (by decide)
 have Y:=aa I
 try rw[I]
 refine w6 ?_
 refine UE (N _ ⟨(cdP c ps cs (p.1,decide (1=1))),(as_++([(q,(c.1.length:Int),true,ixP ps (p.1,decide (1=1)))])),(psP ps (p.1,decide (1=1))),(by (rw[Qs6 (by rw[QB ‹_›]; assumption) ‹_›]; rfl)),(by (exact ⟨XZ,XW,by simp⟩)),rfl⟩) ?_
 exact wp [(5,46),(6,47),(7,49)] ⟨rfl,rfl,rfl,rfl,(Qe (by first | rfl | simp)),trivial⟩
end Go.Proofs.YtndabgcpnmeeoaaGreat
