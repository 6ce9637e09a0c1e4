/- Walks over abstract states: the reference puts a signal in. -/
import Derived.Test.YtgpdhgadmjfokaaGreatBVf
set_option linter.unusedSimpArgs false
set_option linter.unusedVariables false
set_option linter.unusedSectionVars false
namespace Go.Proofs.YtgpdhgadmjfokaaGreat
open Go.RowKit
set_option maxRecDepth 100000
set_option maxHeartbeats 4000000
def vB (b:Bool):Int:=if b then 1 else 0
def ZI (p:PSt):Int:=2*p.1+vB p.2
def QcD (x:UInt8)(v:Int):Bool:=if x=48 then decide (v=0) else if x=49 then decide (v=1) else true
section
variable {c:DSg}{s:ByteArray}{ps:List PSt}{p:PSt}{cs:List ByteArray}{i:Nat}{k v z q:Int}{code:ByteArray}{a:DAr}
theorem KJ (b:Bool):vB b=0∨vB b=1:=by cases b <;> simp[vB]
theorem QeL (b:Bool):decide (vB b=1)=b:=by cases b <;> rfl
theorem QaY (hv:v=0∨v=1):ZI p=2*k+v↔p=(k,decide (v=1)):=by
 obtain ⟨x,b⟩:=p
 simp only[ZI,Prod.mk.injEq]
 have:=KJ b
 constructor
 ·intro h
  have d:x=k:=by omega
  have e:vB b=v:=by omega
  refine ⟨d, ?_⟩
  rw[← e,QeL]
 ·rintro ⟨rfl,rfl⟩
  rcases hv with rfl | rfl <;> rfl
theorem Qsy {α:Type _}[BEq α][LawfulBEq α]{l:List α}{i:Nat}{x:α}(h:l[i]? =some x)(b:∀j,j < i→l[j]? ≠some x):l.idxOf x=i:=by
 induction l generalizing i with
 | nil=>simp at h
 | cons y l e=>
  cases i with
  | zero=>simp at h; subst h; simp
  | succ i=>
   have d:y≠x:=by have:=b 0 (by omega); simpa using this
   rw[List.idxOf_cons,show (y==x)=false by simpa using d]
   simp only[cond_false]
   rw[e (by simpa using h) fun j f=>by have:=b (j+1) (by omega); simpa using this]
abbrev Qhz (k v:Int):Int→Bool:=fun z=>decide (z=2*k+v)
theorem QeN (h:(ps.map ZI)[i]? =some z):∃p,ps[i]? =some p∧z=ZI p:=by
 rw[bc] at h
 cases b:ps[i]? with
 | none=>rw[b] at h; cases h
 | some p=>rw[b] at h; exact ⟨p,rfl,(cw h).symm⟩
theorem Qsf (hv:v=0∨v=1)(f:NoneTo (Qhz k v) (ps.map ZI) i)(l:(ps.map ZI)[i]? =some z)(m:z=2*k+v):ps[i]? =some (k,decide (v=1))∧(i:Int)=ixP ps (k,decide (v=1)):=by
 obtain ⟨p,b,d⟩:=QeN l
 have e:=(QaY hv).1 (d.symm.trans m)
 rw[e] at b
 refine ⟨b, ?_⟩
 unfold ixP
 rw[Qsy b fun j g h=> ?_]
 have:=f j g (ZI (k,decide (v=1))) (by rw[bc,h]; rfl)
 simp only[bH] at this
 exact this ((QaY hv).2 rfl)
theorem QyW (hv:v=0∨v=1)(b:NoneTo (Qhz k v) (ps.map ZI) i)(d:(ps.map ZI)[i]? =some z)(e:z=2*k+v):(i:Int)=ixP ps (k,decide (v=1)):=(Qsf hv b d e).2
theorem Qym (hv:v=0∨v=1)(b:NoneTo (Qhz k v) (ps.map ZI) i)(d:(ps.map ZI)[i]? =some z)(e:z=2*k+v):ps.map ZI=(psP ps (k,decide (v=1))).map ZI:=by
 unfold psP; rw[if_pos (ah (Qsf hv b d e).1)]
theorem QxQ (hv:v=0∨v=1)(b:NoneTo (Qhz k v) (ps.map ZI) i)(d:(ps.map ZI)[i]? =some z)(e:z=2*k+v):cs=cdP c ps cs (k,decide (v=1)):=by
 unfold cdP; rw[if_pos (ah (Qsf hv b d e).1)]
theorem QmZ (hv:v=0∨v=1)(d:NoneTo (Qhz k v) (ps.map ZI) i)(hi:ps.length≤i):(k,decide (v=1))∉ps:=fun e=>by
 obtain ⟨j,b⟩:=aM.1 e
 have f:=(ai.1 b).1
 have:=d j (by omega) (ZI (k,decide (v=1))) (by rw[bc,b]; rfl)
 simp only[bH] at this
 exact this ((QaY hv).2 rfl)
theorem Qyx (hv:v=0∨v=1)(b:NoneTo (Qhz k v) (ps.map ZI) i)(hi:ps.length≤i):(((ps.map ZI)++[2*k+v]).length:Int) - 1=ixP ps (k,decide (v=1)):=by
 unfold ixP; rw[List.idxOf_eq_length (QmZ hv b hi)]; simp
theorem QyP (hv:v=0∨v=1)(b:NoneTo (Qhz k v) (ps.map ZI) i)(hi:ps.length≤i):ps.map ZI++[2*k+v]=(psP ps (k,decide (v=1))).map ZI:=by
 unfold psP; rw[if_neg (QmZ hv b hi),bj,List.map_singleton,(QaY hv).2 rfl]
theorem Qyp (hv:v=0∨v=1)(b:NoneTo (Qhz k v) (ps.map ZI) i)(hi:ps.length≤i)(d:c.2.1[k.toNat]? =some code):cs++[code++⟨#[UInt8.ofNat (48+v).toNat]⟩]=cdP c ps cs (k,decide (v=1)):=by
 unfold cdP; rw[if_neg (QmZ hv b hi),Vh d]
 rcases hv with rfl | rfl <;> rfl
theorem Qjz:ZI p / 2=p.1:=by have:=KJ p.2; unfold ZI; omega
theorem QqG:ZI p % 2=vB p.2:=by have:=KJ p.2; unfold ZI; omega
theorem Qkh (b:QcD (bAt s a.2.2.2) (vB p.2)=false):YI s p a=true:=by
 unfold QcD at b
 unfold YI
 cases d:p.2 <;> rw[d] at b <;> revert b <;> (repeat' split) <;> simp_all [vB]
theorem QmU (d:a.1=p.1)(b:ZS s a=true)(f:(decide (bAt s p.1=43)==decide (vB p.2=0))=true):YI s p a=true:=by
 unfold YI
 rw[b]
 have:ZV s p=true:=by
  unfold ZS at b
  unfold ZV
  rw[d] at b
  cases e:p.2 <;> rw[e] at f <;> simp_all [vB]
 simp[this]
theorem Qkg (h:a.1=p.1)(e:QcD (bAt s a.2.2.2) (vB p.2)=true)(b:ZS s a=false∨(decide (bAt s p.1=43)==decide (vB p.2=0))=false):YI s p a=false:=by
 have g:(ZV s p&&ZS s a)=false:=by
  rcases b with b | b
  ·rw[b,Bool.and_false]
  ·cases f:ZS s a with
   | false=>rw[Bool.and_false]
   | true=>
    unfold ZS at f
    unfold ZV
    rw[h] at f
    cases d:p.2 <;> rw[d] at b <;> simp_all [vB]
 unfold YI
 rw[g]
 unfold QcD at e
 cases d:p.2 <;> rw[d] at e <;> revert e <;> (repeat' split) <;> simp_all [vB]
theorem Qsp (h:ZV s p=true):(bAt s p.1=43∧p.2=false)∨(bAt s p.1=45∧p.2=true):=by
 unfold ZV at h
 simpa using h
theorem Qrn {st:Ins}(b:bAt s p.1=43)(d:vB p.2=0):Qc2 c s st q p=Kt c st q ((c.1.length:Int),true) (p.1,decide ((1:Int)=1)):=by
 have e:p.2=false:=by cases h:p.2 <;> rw[h] at d <;> simp[vB] at d
 rw[QbC (by unfold ZV; rw[b,e]; rfl),b,e]; rfl
theorem Qpo {st:Ins}(b:bAt s p.1=45)(d:vB p.2=1):Qc2 c s st q p=Kt c st q ((c.1.length:Int),false) (p.1,decide ((0:Int)=1)):=by
 have e:p.2=true:=by cases h:p.2 <;> rw[h] at d <;> simp[vB] at d
 rw[QbC (by unfold ZV; rw[b,e]; rfl),b,e]; rfl
theorem QdX {st:Ins}(e:bAt s p.1=43→¬vB p.2=0)(f:bAt s p.1=45→¬vB p.2=1):Qc2 c s st q p=st:=by
 refine QfQ ?_
 cases h:ZV s p with
 | false=>rfl
 | true=>
  rcases Qsp h with ⟨b,d⟩ | ⟨b,d⟩
  ·exact absurd (by rw[d]; rfl) (e b)
  ·exact absurd (by rw[d]; rfl) (f b)
end
theorem HV (n:Int)(t:0≤n∧n≤9):FC Tryz.prog 337 [(false,[dI n])] [] 0 (Q7 (lf (dS (⟨#[UInt8.ofNat (48+n).toNat]⟩:ByteArray)))):=by
 have d:decide (n < 10)=true:=aQ (by omega)
 refine Qt Tryz.func337 rfl rfl Tryz.ntmps337 fun o l m g r j h=> ?_
 refine acI 0 fun _=> ?_
 refine w8 ?_
 cases b:(decide (n < 10))
 exact absurd (b.symm.trans (show (decide (n < 10))=true from d)) (by decide)
 have f:=ab b
 refine w4 ?_
 refine lc (Qpx (Qa rfl) Uu Vl (by omega) (by omega) rfl) ?_
 refine lc (dBs 0 (e:= .u8) Qfc) ?_
 refine lc (Zm (ys:=[UInt8.ofNat (48+n).toNat]) (YM (Qa rfl) rfl) ZD Vl Zf rfl) ?_
 refine w3 ?_
 exact fe_ l
theorem ZG (c:DSg)(b:ByteArray)(ps:List PSt)(ss:List QD)(cs:List ByteArray)(as_:List DAr)(k:Int)(v:Int)(L:0≤k∧k < (c.2.1.length:Int))(hv:v=0∨v=1)(D:∀x∈c.2.1,x.size≤1000)(J:ps.length≤1000000∧cs.length≤1000000)(K:c.2.1.length≤1000000):FC Tryz.prog 311 [(false,[.ptr 0 0]),(false,[dI k]),(false,[dI v])] [bx 0 287 [.dat Ql c.1, .dat Qm c.2.1, .dat Qu c.2.2,dS b, .ref 3, .ref 1, .ref 4, .ref 2],ar 3 3 .int (ps.map ZI),ar 1 44 Qz ss,ar 4 9 .str cs,ar 2 46 Qs as_] 3 (Is (lI (ixP ps (k,decide (v=1)))) [bx 0 287 [.dat Ql c.1, .dat Qm c.2.1, .dat Qu c.2.2,dS b, .ref 3, .ref 1, .ref 4, .ref 2],ar 3 3 .int ((psP ps (k,decide (v=1))).map ZI),ar 1 44 Qz ss,ar 4 9 .str (cdP c ps cs (k,decide (v=1))),ar 2 46 Qs as_]):=by
 have E:(ps.map ZI).length=ps.length:=aC ..
 refine Qt Tryz.func311 rfl rfl Tryz.ntmps311 fun H u F y I C B=> ?_
 refine acI 1 fun _=> ?_
 refine acI 2 fun _=> ?_
 refine w13 ?_
 refine lpK ps.length (fun i=>NoneTo (Qhz k v) (ps.map ZI) i) (fun i=>⟨[(0,lP 0 0),(1,lI k),(2,lI v),(12,lR 3),(13,lI ((ps.map ZI).length:Int)),(14,lI (i:Int))],[bx 0 287 [.dat Ql c.1, .dat Qm c.2.1, .dat Qu c.2.2,dS b, .ref 3, .ref 1, .ref 4, .ref 2],ar 1 44 Qz ss,ar 2 46 Qs as_,ar 3 3 .int (ps.map ZI),ar 4 9 .str cs]⟩) (NoneTo.zero) ?_ fun i _ h=> ?_
 exact wo []
 refine w4 ?_
 cases l:(decide ((i:Int) < ((ps.map ZI).length:Int)))
 have m:=aa l
 refine w10 ?_
 refine lc (Vg (Qp rfl) (Qa rfl) rfl (by first | omega | (simp only[ae,aC,aj,aA]; omega))) ?_
 refine w_ ?_
 refine lc (XQ (Qa rfl) (Qa rfl) rfl (by first | omega | (simp only[ae,aC,aj,aA]; omega))) ?_
 refine lc (dBs 5 (e:= .int) Yj) ?_
 refine lc (dA 6 Y4) ?_
 refine w4 ?_
 obtain ⟨t,r⟩:=gx c.2.1 ((k).toNat)
 have o:=D _ (ah r)
 apply dW (i9 40 _ _ _ _ _ _ _ _ _ (i6 49 _ _ _ _ _ _ (io 55 (lf (dS (⟨#[UInt8.ofNat (48+v).toNat]⟩:ByteArray))) :: io 56 (lf (dS (t++(⟨#[UInt8.ofNat (48+v).toNat]⟩:ByteArray)))) :: ⟨some 57,lR 7,[ar 7 9 .str ([t++(⟨#[UInt8.ofNat (48+v).toNat]⟩:ByteArray)])]⟩ :: ⟨some 58,lR 8,[ar 8 9 .str (cs++([t++(⟨#[UInt8.ofNat (48+v).toNat]⟩:ByteArray)])),(4,none),(7,none)]⟩ :: i3 59 _ _ _ [⟨none,lf (.val undef),[bx 0 287 [.dat Ql c.1, .dat Qm c.2.1, .dat Qu c.2.2,dS b, .ref 6, .ref 1, .ref 8, .ref 2]]⟩]))) [0,1,1,1,1,1,63,63,63,63,63,2047,63,63,16383,16383,63,63,1,0,0,0,0]
 refine z15 ?_
 refine zz (fun _ d=>ac (dK (HV v (by omega)) Qeb) rfl) ?_
 refine zz (fun _ d=>ac (Zn (d.v rfl) (d.v rfl) rfl (by first | omega | (simp only[Xt]; omega))) rfl) ?_
 refine zz (fun _ d=>ac (dBs 7 (e:= .str) Va) rfl) ?_
 refine zz (fun _ d=>ac (dA 8 Js) rfl) ?_
 refine z3 ?_
 refine zz (fun _ d=>ac (QO (d.v rfl) (d.en 0 rfl) (d.w rfl) (by simp only[QQ,Xz,aY,br]; rw[(d.en 8 rfl)]; rfl) Qm5 rfl) rfl) ?_
 exact zN
 refine w6 ?_
 refine lc (Vk (Qa rfl) (Qp rfl) rfl (by first | omega | (simp only[ae,aC,aj,aA]; omega))) ?_
 refine w3 ?_
 have A:((((ps.map ZI)++([(2*k)+v])).length:Int) - 1:Int)=(ixP ps (k,decide (v=1))):=by
  exact Qyx hv h (by omega)
 exact fi_ [(3,6),(4,8)] u ⟨rfl,(Qe (by exact QyP hv h (by omega))),rfl,(Qe (by exact Qyp hv h (by omega) ‹_›)),rfl,trivial⟩ (h0:=by rw[A] <;> rfl)
 have m:=ab l
 refine w7 ?_
 obtain ⟨G,f⟩:=gx (ps.map ZI) i
 refine w_ ?_
 refine alI 18 fun _=> ?_
 refine w6 ?_
 refine lc (Vg (Qp rfl) (Qa rfl) rfl (by first | omega | (simp only[ae,aC,aj,aA]; omega))) ?_
 refine w_ ?_
 refine lc (XQ (Qa rfl) (Qa rfl) rfl (by first | omega | (simp only[ae,aC,aj,aA]; omega))) ?_
 refine w2 ?_
 cases g:(decide (G=((2*k)+v)))
 have j:=aa g
 refine w4 ?_
 refine lc (XQ (Qa rfl) (Qp rfl) rfl (by first | omega | (simp only[ae,aC,aj,aA]; omega))) ?_
 refine w_ ?_
 refine Qb ?_
 refine lK_ (h.step f ‹_›) ?_
 exact wo []
 have j:=ab g
 refine w6 ?_
 have n:((i:Int):Int)=(ixP ps (k,decide (v=1))):=by
  exact QyW hv h f ‹_›
 exact fi_ [] u ⟨rfl,(Qe (by exact Qym hv h f ‹_›)),rfl,(Qe (by exact QxQ hv h f ‹_›)),rfl,trivial⟩ (h0:=by rw[n] <;> rfl)
theorem UT (c:DSg)(b:ByteArray)(ps:List PSt)(ss:List QD)(cs:List ByteArray)(as_:List DAr)(k:Int)(v:Int)(t:0≤k∧k < (b.size:Int)):FC Tryz.prog 401 [(false,[.ptr 0 0]),(false,[dI k]),(false,[dI v])] [bx 0 287 [.dat Ql c.1, .dat Qm c.2.1, .dat Qu c.2.2,dS b, .ref 1, .ref 2, .ref 3, .ref 4],ar 1 3 .int (ps.map ZI),ar 2 44 Qz ss,ar 3 9 .str cs,ar 4 46 Qs as_] 5 (Is (lB (QcD (bAt b k) v)) [bx 0 287 [.dat Ql c.1, .dat Qm c.2.1, .dat Qu c.2.2,dS b, .ref 1, .ref 2, .ref 3, .ref 4],ar 1 3 .int (ps.map ZI),ar 2 44 Qz ss,ar 3 9 .str cs,ar 4 46 Qs as_]):=by
 refine Qt Tryz.func401 rfl rfl Tryz.ntmps401 fun o d n e r l j=> ?_
 refine acI 1 fun _=> ?_
 refine acI 2 fun _=> ?_
 refine w10 ?_
 obtain ⟨c3,m⟩:=gs b ((k).toNat)
 refine w4 ?_
 refine lc (Qr (Qa rfl) (Qw 48 rfl) rfl) ?_
 refine w2 ?_
 refine cd_ (fun _ _=> ?_) fun _ _=> ?_
 refine w_ ?_
 refine lc (Qr (Qa rfl) (Qw 49 rfl) rfl) ?_
 refine w2 ?_
 refine cd_ (fun _ _=> ?_) fun _ _=> ?_
 refine w6 ?_
 have f:(true:Bool)=(QcD (bAt b k) v):=by
  first | (unfold QcD; rw[Qv ‹_›]; simp[*]; done)
 exact fi_ [] d ⟨rfl,rfl,rfl,rfl,rfl,trivial⟩ (h0:=by rw[← f] <;> rfl)
 refine w6 ?_
 have g:(decide (v=1):Bool)=(QcD (bAt b k) v):=by
  first | (unfold QcD; rw[Qv ‹_›]; simp[*]; done)
 exact fi_ [] d ⟨rfl,rfl,rfl,rfl,rfl,trivial⟩ (h0:=by rw[g] <;> rfl)
 refine w6 ?_
 have h:(decide (v=0):Bool)=(QcD (bAt b k) v):=by
  first | (unfold QcD; rw[Qv ‹_›]; simp[*]; done)
 exact fi_ [] d ⟨rfl,rfl,rfl,rfl,rfl,trivial⟩ (h0:=by rw[h] <;> rfl)
theorem Qbi (c:DSg)(b:ByteArray)(ps:List PSt)(ss:List QD)(cs:List ByteArray)(as_:List DAr)(q:Int)(hk:0≤q∧q < (ps.length:Int))(M:SignsOk c b)(Q:∀p∈ps,0≤p.1∧p.1 < (c.2.1.length:Int))(hl:ps.length≤10000∧cs.length≤10000∧as_.length≤90000000):FC Tryz.prog 312 [(false,[.ptr 0 0]),(false,[dI q])] [bx 0 287 [.dat Ql c.1, .dat Qm c.2.1, .dat Qu c.2.2,dS b, .ref 2, .ref 1, .ref 3, .ref 4],ar 2 3 .int (ps.map ZI),ar 1 44 Qz ss,ar 3 9 .str cs,ar 4 46 Qs as_] 2 (Is (PV.tup []) [bx 0 287 [.dat Ql c.1, .dat Qm c.2.1, .dat Qu c.2.2,dS b, .ref 2, .ref 1, .ref 3, .ref 4],ar 2 3 .int (((WN c b (ps,cs,as_) q).1).map ZI),ar 1 44 Qz ss,ar 3 9 .str ((WN c b (ps,cs,as_) q).2.1),ar 4 46 Qs ((WN c b (ps,cs,as_) q).2.2)]):=by
 have c1:=M.2.1
 have b8:=M.2.2.some_
 have b2:=M.2.2.few
 have c0:=Kc M.2.2.sigs
 have U:∀x∈c.2.1,x.size≤1000:=fun x hx=>by have:=(M.2.2.codes x hx).2; omega
 have b7:(ps.map ZI).length=ps.length:=aC ..
 refine Qt Tryz.func312 rfl rfl Tryz.ntmps312 fun O_ hO c3 a8 X_ b0 a9=> ?_
 refine acI 1 fun _=> ?_
 obtain ⟨z,D⟩:=gx (ps.map ZI) ((q).toNat)
 have a7:0≤z:=by obtain ⟨p_,V,W⟩:=QeN D; have:=Q _ (ah V); have:=KJ p_.2; rw[W]; unfold ZI; omega
 apply dW (i5 10 _ _ _ _ _ (io 15 (lf (.ept 2 1 ((q).toNat) 0)) :: io 16 (lI z) :: io 17 (lI (z / 2)) :: i5 18 _ _ _ _ _ (io 23 (lf (.ept 2 1 ((q).toNat) 0)) :: io 24 (lI z) :: io 25 (lI (z % 2)) :: i2 4 _ _ []))) [0,0,0,0,15,0,0,0,255,255,255,255,4095,255,255,255,65280,0]
 refine z5 ?_
 refine zz (fun _ d=>ac (QE (e:= .int) (d.v rfl) (d.en 2 rfl) (d.v rfl) Yg Yw rfl (by omega) (by first | omega | (simp only[az]; omega))) rfl)<|zz (fun _ d=>ac (Q3 (e:= .int) (d.v rfl) (d.n 2 rfl) D rfl Yw rfl rfl) rfl)<|zz (fun _ d=>ac (Qkm (d.v rfl) (Qp rfl) rfl (by omega) (by omega)) rfl) ?_
 refine z5 ?_
 refine zz (fun _ d=>ac (QE (e:= .int) (d.v rfl) (d.en 2 rfl) (d.v rfl) Yg Yw rfl (by omega) (by first | omega | (simp only[az]; omega))) rfl)<|zz (fun _ d=>ac (Q3 (e:= .int) (d.v rfl) (d.n 2 rfl) D rfl Yw rfl rfl) rfl)<|zz (fun _ d=>ac (QeW (d.v rfl) (Qp rfl) rfl (by omega) (by omega)) rfl) ?_
 exact y2
 refine Yo ?_
 obtain ⟨p,R,S⟩:=QeN D
 have a0:z / 2=p.1:=by rw[S]; exact Qjz
 have a1:z % 2=vB p.2:=by rw[S]; exact QqG
 rw[a0,a1]
 have b9:=Q _ (ah R)
 have b1:=Qa7 (l:=c.2.2) (q:=p.1)
 have c2:=KJ p.2
 refine w6 ?_
 refine alL 30 fun _=> ?_
 refine w3 ?_
 refine QfN (fun T=>∃(A:List ByteArray) (y:List (Int×Int×Bool×Int)) (B:List PSt),((B,A,y)=Qc2 c b (ps,cs,as_) q p)∧(B.length≤ps.length+1∧A.length≤cs.length+1∧y.length≤as_.length+1)∧T=⟨[(0,lP 0 0),(1,lI q),(4,lI p.1),(5,lI (vB p.2))],[bx 0 287 [.dat Ql c.1, .dat Qm c.2.1, .dat Qu c.2.2,dS b, .ref 5, .ref 1, .ref 6, .ref 7],ar 1 44 Qz ss,ar 5 3 .int (B.map ZI),ar 6 9 .str A,ar 7 46 Qs y]⟩) ?_ fun N=> ?_
 rintro T ⟨A,y,B,hP,b4,rfl⟩
 refine w6 ?_
 refine lc (dK (Qec c p.1 (by omega)).frozen Ql9) ?_
 refine alL 93 fun _=> ?_
 refine w4 ?_
 refine QL (fun m_ T=>∃(i:Nat) (o:List ByteArray) (m:List (Int×Int×Bool×Int)) (j:List PSt),i≤(Yf c.2.2 p.1).length∧m_=(Yf c.2.2 p.1).length - i∧(WN c b (ps,cs,as_) q=((Yf c.2.2 p.1).drop i).foldl (Jf c b q p) (j,o,m))∧(j.length≤ps.length+1+i∧o.length≤cs.length+1+i∧m.length≤as_.length+1+i)∧T=⟨[(0,lP 0 0),(1,lI q),(4,lI p.1),(5,lI (vB p.2)),(93,lf (.dat Qu (Yf c.2.2 p.1))),(94,lI ((Yf c.2.2 p.1).length:Int)),(95,lI (i:Int))],[bx 0 287 [.dat Ql c.1, .dat Qm c.2.1, .dat Qu c.2.2,dS b, .ref 8, .ref 1, .ref 9, .ref 10],ar 1 44 Qz ss,ar 8 3 .int (j.map ZI),ar 9 9 .str o,ar 10 46 Qs m]⟩) ⟨0,A,y,B,aS _,rfl,(by rw[hP]; exact QhL R),(by omega),rfl⟩ ?_ ?_
 exact wo [(8,5),(9,6),(10,7)]
 rintro m_ T ⟨i,o,m,j,b3,b6,E,b5,rfl⟩
 refine w4 ?_
 cases O:(decide ((i:Int) < ((Yf c.2.2 p.1).length:Int)))
 have P:=aa O
 refine w2 ?_
 refine (?_:fin _ _ _ _ .normal _)
 exact fi_ [(2,8),(3,9),(4,10)] hO ⟨rfl,(Qe (by (rw[E,VX (by omega)]; done))),rfl,(Qe (by (rw[E,VX (by omega)]; done))),(Qe (by (rw[E,VX (by omega)]; done))),trivial⟩
 have P:=ab O
 refine w5 ?_
 obtain ⟨f,r⟩:=gx (Yf c.2.2 p.1) i
 have t:=Jq.1 (ah r)
 have Z:=M.at_ t.1
 refine w2 ?_
 refine lc (xal 11 Qs Zg) ?_
 refine w2 ?_
 cases F:(ZS b f)
 apply dW (i5 99 _ _ _ _ _ (io 104 (lB false) :: i9 105 _ _ _ _ _ _ _ _ _ (i3 114 _ _ _ [io 9 _]))) [0,0,0,0,15,0,0,0,0,0,0,1920,0,0,16256,16256,0,0,0]
 refine z5 ?_
 refine zz (fun _ d=>ac (QC (F) (dK (WL b f (by omega) (by omega)) Qae)) rfl) ?_
 exact y13
 refine w4 ?_
 refine alI 119 fun _=> ?_
 refine w_ ?_
 refine lc (dP 12 [(1,8),(2,1),(3,9),(4,10)] (UT c b j ss o m f.2.2.2 (vB p.2) (by omega)) QeI) ?_
 refine w_ ?_
 cases a2:(QcD (bAt b f.2.2.2) (vB p.2))
 refine w10 ?_
 refine Qb<|Q2 ⟨i+1,o,m,j,by omega,rfl,(by (rw[E,ZY r,XA (Qkh ‹_›)]; done)),(by omega),rfl⟩ (by omega) ?_
 exact wo []
 refine w5 ?_
 apply dV (i2 126 _ _ (io 128 (lP 0 0) :: io 129 (lP 0 5) :: io 130 (lP 0 7) :: io 131 (lR 10) :: i9 132 _ _ _ _ _ _ _ _ _ (⟨some 141,lI (ixP j (f.2.2.2,decide ((vB p.2)=1))),[bx 0 287 [.dat Ql c.1, .dat Qm c.2.1, .dat Qu c.2.2,dS b, .ref 20, .ref 1, .ref 21, .ref 10],ar 20 3 .int ((psP j (f.2.2.2,decide ((vB p.2)=1))).map ZI),ar 1 44 Qz ss,ar 21 9 .str (cdP c j o (f.2.2.2,decide ((vB p.2)=1))),ar 10 46 Qs m,(0,none),(8,none),(1,none),(9,none),(10,none)]⟩ :: io 142 (ag [dI q,dI f.2.1,dB f.2.2.1,dI (ixP j (f.2.2.2,decide ((vB p.2)=1)))]) :: ⟨some 143,lR 22,[ar 22 46 Qs ([(q,f.2.1,f.2.2.1,ixP j (f.2.2.2,decide ((vB p.2)=1)))])]⟩ :: ⟨some 144,lR 23,[ar 23 46 Qs (m++([(q,f.2.1,f.2.2.1,ixP j (f.2.2.2,decide ((vB p.2)=1)))])),(10,none),(22,none)]⟩ :: i3 145 _ _ _ [⟨none,lf (.val undef),[bx 0 287 [.dat Ql c.1, .dat Qm c.2.1, .dat Qu c.2.2,dS b, .ref 20, .ref 1, .ref 21, .ref 23]]⟩]))) [0,1,1,1,1,1,63,127,127,511,511,2047,4095,4095,16383,2047,63,63,1,0,0,0,0]
 refine z2 ?_
 refine zz (fun _ d=>by rcases d.en2 0 15 rfl with g | g <;> exact ac (Wl (d.v rfl) (by rw[g]; rfl) rfl) rfl)<|zz (fun _ d=>by rcases d.en2 0 15 rfl with g | g <;> exact ac (ZL (d.v rfl) Hu (by rw[g]; rfl) rfl) rfl)<|zz (fun _ d=>by rcases d.en2 0 15 rfl with g | g <;> exact ac (ZL (d.v rfl) JE (by rw[g]; rfl) rfl) rfl)<|zz (fun _ d=>by rcases d.en2 0 15 rfl with g | g <;> exact ac (Xk (d.v rfl) g UL rfl rfl) rfl) ?_
 refine z9 ?_
 refine zz (fun _ d=>ac (dP 17 [(2,10),(3,8),(4,9)] (ZG c b j ss o m f.2.2.2 (vB p.2) (by omega) (by omega) U (by omega) (by omega)) XZ) rfl) ?_
 refine zz (fun _ d=>ac (Qg QcF ⟨_,_,rfl,(d.w rfl),⟨_,_,rfl,(d.w rfl),⟨_,_,rfl,(d.w rfl),⟨_,_,rfl,(d.w rfl),rfl⟩⟩⟩⟩ (au.1 rfl) rfl rfl) rfl) ?_
 refine zz (fun _ d=>ac (dBs 22 (e:=Qs) Zg (hab:=by exact ⟨_,_,_,_,rfl,⟨[dI q],[dI f.2.1,dB f.2.2.1,dI (ixP j (f.2.2.2,decide ((vB p.2)=1)))],_,_,_,_,rfl,rfl,⟨rfl,rfl⟩,⟨[dI f.2.1],[dB f.2.2.1,dI (ixP j (f.2.2.2,decide ((vB p.2)=1)))],_,_,_,_,rfl,rfl,⟨rfl,rfl⟩,⟨[dB f.2.2.1],[dI (ixP j (f.2.2.2,decide ((vB p.2)=1)))],_,_,_,_,rfl,rfl,⟨rfl,rfl⟩,⟨rfl,rfl⟩,rfl⟩,rfl⟩,rfl⟩,⟨rfl,rfl⟩,rfl⟩)) rfl) ?_
 refine zz (fun _ d=>ac (dA 23 UM) rfl) ?_
 refine z3 ?_
 refine zz (fun _ d=>ac (QO (d.v rfl) (d.en 0 rfl) (d.w rfl) (by simp only[QQ,Xz,aY,br]; rw[(d.en 23 rfl)]; rfl) UL rfl) rfl) ?_
 exact zN
 refine w4 ?_
 refine Qb<|Q2 ⟨i+1,(cdP c j o (f.2.2.2,decide ((vB p.2)=1))),(m++([(q,f.2.1,f.2.2.1,ixP j (f.2.2.2,decide ((vB p.2)=1)))])),(psP j (f.2.2.2,decide ((vB p.2)=1))),by omega,rfl,(by (rw[E,ZY r,Wt (Qkg t.2 ‹_› (by first | exact .inl ‹_› | exact .inr (by rw[Qv ‹_›]; assumption)))]; simp[Kt,QeL]; done)),(by (exact ⟨bl XV (by omega),bl XU (by omega),by rw[ae]; simp; omega⟩)),rfl⟩ (by omega) ?_
 exact wp [(8,20),(9,21),(10,23)] ⟨rfl,rfl,rfl,rfl,(Qe (by first | rfl | simp)),trivial⟩
 obtain ⟨J,a5⟩:=gs b ((p.1).toNat)
 apply dW (i5 99 _ _ _ _ _ (io 104 (lB true) :: i7 105 _ _ _ _ _ _ _ (io 112 (lB (decide (J=43))) :: i2 113 _ _ [io 115 (lB ((decide (J=43))==(decide ((vB p.2)=0)))),io 116 _,io 9 _]))) [0,0,0,0,15,0,0,0,0,0,0,1920,0,0,16256,16256,0,0,0]
 refine z5 ?_
 refine zz (fun _ d=>ac (QC (F) (dK (WL b f (by omega) (by omega)) Qae)) rfl) ?_
 refine z7 ?_
 refine zz (fun _ d=>day rfl (d.k rfl) (Qr (d.v rfl) (Qw 43 rfl) rfl) rfl) ?_
 refine z2 ?_
 refine zz (fun _ d=>day rfl (d.k rfl) (J6 (d.v rfl) (d.v rfl) rfl Jr) rfl) ?_
 exact y2
 refine w4 ?_
 refine alI 119 fun _=> ?_
 refine w_ ?_
 refine lc (dP 24 [(1,8),(2,1),(3,9),(4,10)] (UT c b j ss o m f.2.2.2 (vB p.2) (by omega)) QeI) ?_
 refine w_ ?_
 cases a3:(QcD (bAt b f.2.2.2) (vB p.2))
 refine w10 ?_
 refine Qb<|Q2 ⟨i+1,o,m,j,by omega,rfl,(by (rw[E,ZY r,XA (Qkh ‹_›)]; done)),(by omega),rfl⟩ (by omega) ?_
 exact wo []
 refine w4 ?_
 cases a4:((decide (J=43))==(decide ((vB p.2)=0)))
 refine w_ ?_
 apply dV (i2 126 _ _ (io 128 (lP 0 0) :: io 129 (lP 0 5) :: io 130 (lP 0 7) :: io 131 (lR 10) :: i9 132 _ _ _ _ _ _ _ _ _ (⟨some 141,lI (ixP j (f.2.2.2,decide ((vB p.2)=1))),[bx 0 287 [.dat Ql c.1, .dat Qm c.2.1, .dat Qu c.2.2,dS b, .ref 32, .ref 1, .ref 33, .ref 10],ar 32 3 .int ((psP j (f.2.2.2,decide ((vB p.2)=1))).map ZI),ar 1 44 Qz ss,ar 33 9 .str (cdP c j o (f.2.2.2,decide ((vB p.2)=1))),ar 10 46 Qs m,(0,none),(8,none),(1,none),(9,none),(10,none)]⟩ :: io 142 (ag [dI q,dI f.2.1,dB f.2.2.1,dI (ixP j (f.2.2.2,decide ((vB p.2)=1)))]) :: ⟨some 143,lR 34,[ar 34 46 Qs ([(q,f.2.1,f.2.2.1,ixP j (f.2.2.2,decide ((vB p.2)=1)))])]⟩ :: ⟨some 144,lR 35,[ar 35 46 Qs (m++([(q,f.2.1,f.2.2.1,ixP j (f.2.2.2,decide ((vB p.2)=1)))])),(10,none),(34,none)]⟩ :: i3 145 _ _ _ [⟨none,lf (.val undef),[bx 0 287 [.dat Ql c.1, .dat Qm c.2.1, .dat Qu c.2.2,dS b, .ref 32, .ref 1, .ref 33, .ref 35]]⟩]))) [0,1,1,1,1,1,63,127,127,511,511,2047,4095,4095,16383,2047,63,63,1,0,0,0,0]
 refine z2 ?_
 refine zz (fun _ d=>by rcases d.en2 0 15 rfl with g | g <;> exact ac (Wl (d.v rfl) (by rw[g]; rfl) rfl) rfl)<|zz (fun _ d=>by rcases d.en2 0 15 rfl with g | g <;> exact ac (ZL (d.v rfl) Hu (by rw[g]; rfl) rfl) rfl)<|zz (fun _ d=>by rcases d.en2 0 15 rfl with g | g <;> exact ac (ZL (d.v rfl) JE (by rw[g]; rfl) rfl) rfl)<|zz (fun _ d=>by rcases d.en2 0 15 rfl with g | g <;> exact ac (Xk (d.v rfl) g UL rfl rfl) rfl) ?_
 refine z9 ?_
 refine zz (fun _ d=>ac (dP 29 [(2,10),(3,8),(4,9)] (ZG c b j ss o m f.2.2.2 (vB p.2) (by omega) (by omega) U (by omega) (by omega)) XZ) rfl) ?_
 refine zz (fun _ d=>ac (Qg QcF ⟨_,_,rfl,(d.w rfl),⟨_,_,rfl,(d.w rfl),⟨_,_,rfl,(d.w rfl),⟨_,_,rfl,(d.w rfl),rfl⟩⟩⟩⟩ (au.1 rfl) rfl rfl) rfl) ?_
 refine zz (fun _ d=>ac (dBs 34 (e:=Qs) Zg (hab:=by exact ⟨_,_,_,_,rfl,⟨[dI q],[dI f.2.1,dB f.2.2.1,dI (ixP j (f.2.2.2,decide ((vB p.2)=1)))],_,_,_,_,rfl,rfl,⟨rfl,rfl⟩,⟨[dI f.2.1],[dB f.2.2.1,dI (ixP j (f.2.2.2,decide ((vB p.2)=1)))],_,_,_,_,rfl,rfl,⟨rfl,rfl⟩,⟨[dB f.2.2.1],[dI (ixP j (f.2.2.2,decide ((vB p.2)=1)))],_,_,_,_,rfl,rfl,⟨rfl,rfl⟩,⟨rfl,rfl⟩,rfl⟩,rfl⟩,rfl⟩,⟨rfl,rfl⟩,rfl⟩)) rfl) ?_
 refine zz (fun _ d=>ac (dA 35 UM) rfl) ?_
 refine z3 ?_
 refine zz (fun _ d=>ac (QO (d.v rfl) (d.en 0 rfl) (d.w rfl) (by simp only[QQ,Xz,aY,br]; rw[(d.en 35 rfl)]; rfl) UL rfl) rfl) ?_
 exact zN
 refine w4 ?_
 refine Qb<|Q2 ⟨i+1,(cdP c j o (f.2.2.2,decide ((vB p.2)=1))),(m++([(q,f.2.1,f.2.2.1,ixP j (f.2.2.2,decide ((vB p.2)=1)))])),(psP j (f.2.2.2,decide ((vB p.2)=1))),by omega,rfl,(by (rw[E,ZY r,Wt (Qkg t.2 ‹_› (by first | exact .inl ‹_› | exact .inr (by rw[Qv ‹_›]; assumption)))]; simp[Kt,QeL]; done)),(by (exact ⟨bl XV (by omega),bl XU (by omega),by rw[ae]; simp; omega⟩)),rfl⟩ (by omega) ?_
 exact wp [(8,32),(9,33),(10,35)] ⟨rfl,rfl,rfl,rfl,(Qe (by first | rfl | simp)),trivial⟩
 refine w6 ?_
 refine Qb<|Q2 ⟨i+1,o,m,j,by omega,rfl,(by (rw[E,ZY r,XA (QmU t.2 ‹_› (by rw[Qv ‹_›]; assumption))]; done)),(by omega),rfl⟩ (by omega) ?_
 exact wo []
 refine w7 ?_
 obtain ⟨C,a6⟩:=gs b ((p.1).toNat)
 refine w_ ?_
 refine lc (Qr (Qa rfl) (Qw 43 rfl) rfl) ?_
 refine w_ ?_
 cases u:(decide (C=43))
 have K:=aa u
 refine w14 ?_
 refine lc (Qr (Qa rfl) (Qw 45 rfl) rfl) ?_
 refine w_ ?_
 cases G:(decide (C=45))
 have L:=aa G
 refine w6 ?_
 refine XP (N _ ⟨cs,as_,ps,(by (rw[QdX (fun h=>by rw[Qv ‹_›] at h; first | assumption | contradiction) (fun h=>by rw[Qv ‹_›] at h; first | assumption | contradiction)]; done)),(by (exact ⟨by omega,by omega,by omega⟩)),rfl⟩) ?_
 exact wo [(5,2),(6,3),(7,4)]
 have L:=ab G
 refine w4 ?_
 refine cd_ (fun _ _=> ?_) fun _ _=> ?_
 refine w_ ?_
 refine XP (N _ ⟨cs,as_,ps,(by (rw[QdX (fun h=>by rw[Qv ‹_›] at h; first | assumption | contradiction) (fun h=>by rw[Qv ‹_›] at h; first | assumption | contradiction)]; done)),(by (exact ⟨by omega,by omega,by omega⟩)),rfl⟩) ?_
 exact wo [(5,2),(6,3),(7,4)]
 apply dZ (i2 71 _ _ (io 73 (lP 0 0) :: io 74 (lP 0 5) :: io 75 (lP 0 7) :: io 76 (lR 4) :: i4 77 _ _ _ _ (⟨some 81,lI (ixP ps (p.1,decide (0=1))),[bx 0 287 [.dat Ql c.1, .dat Qm c.2.1, .dat Qu c.2.2,dS b, .ref 39, .ref 1, .ref 40, .ref 4],ar 39 3 .int ((psP ps (p.1,decide (0=1))).map ZI),ar 1 44 Qz ss,ar 40 9 .str (cdP c ps cs (p.1,decide (0=1))),ar 4 46 Qs as_,(0,none),(2,none),(1,none),(3,none),(4,none)]⟩ :: io 82 (ag [dI q,dI (c.1.length:Int),dB false,dI (ixP ps (p.1,decide (0=1)))]) :: ⟨some 83,lR 41,[ar 41 46 Qs ([(q,(c.1.length:Int),false,ixP ps (p.1,decide (0=1)))])]⟩ :: ⟨some 84,lR 42,[ar 42 46 Qs (as_++([(q,(c.1.length:Int),false,ixP ps (p.1,decide (0=1)))])),(4,none),(41,none)]⟩ :: i3 85 _ _ _ [⟨none,lf (.val undef),[bx 0 287 [.dat Ql c.1, .dat Qm c.2.1, .dat Qu c.2.2,dS b, .ref 39, .ref 1, .ref 40, .ref 42]]⟩]))) [0,1,1,1,1,1,63,127,255,511,255,63,63,1,0,0,0,0]
 refine z2 ?_
 refine zz (fun _ d=>by rcases d.en2 0 10 rfl with g | g <;> exact ac (Wl (d.v rfl) (by rw[g]; rfl) rfl) rfl)<|zz (fun _ d=>by rcases d.en2 0 10 rfl with g | g <;> exact ac (ZL (d.v rfl) Hu (by rw[g]; rfl) rfl) rfl)<|zz (fun _ d=>by rcases d.en2 0 10 rfl with g | g <;> exact ac (ZL (d.v rfl) JE (by rw[g]; rfl) rfl) rfl)<|zz (fun _ d=>by rcases d.en2 0 10 rfl with g | g <;> exact ac (Xk (d.v rfl) g UL rfl rfl) rfl) ?_
 refine z4 ?_
 refine zz (fun _ d=>ac (dP 36 [(2,4),(3,2),(4,3)] (ZG c b ps ss cs as_ p.1 0 (by omega) (by omega) U (by omega) (by omega)) XZ) rfl) ?_
 refine zz (fun _ d=>ac (Qg QcF ⟨_,_,rfl,(d.w rfl),⟨_,_,rfl,(d.w rfl),⟨_,_,rfl,(d.w rfl),rfl⟩⟩⟩ (au.1 rfl) rfl rfl) rfl) ?_
 refine zz (fun _ d=>ac (dBs 41 (e:=Qs) Zg (hab:=by exact ⟨_,_,_,_,rfl,⟨[dI q],[dI (c.1.length:Int),dB false,dI (ixP ps (p.1,decide (0=1)))],_,_,_,_,rfl,rfl,⟨rfl,rfl⟩,⟨[dI (c.1.length:Int)],[dB false,dI (ixP ps (p.1,decide (0=1)))],_,_,_,_,rfl,rfl,⟨rfl,rfl⟩,⟨[dB false],[dI (ixP ps (p.1,decide (0=1)))],_,_,_,_,rfl,rfl,⟨rfl,rfl⟩,⟨rfl,rfl⟩,rfl⟩,rfl⟩,rfl⟩,⟨rfl,rfl⟩,rfl⟩)) rfl) ?_
 refine zz (fun _ d=>ac (dA 42 UM) rfl) ?_
 refine z3 ?_
 refine zz (fun _ d=>ac (QO (d.v rfl) (d.en 0 rfl) (d.w rfl) (by simp only[QQ,Xz,aY,br]; rw[(d.en 42 rfl)]; rfl) UL rfl) rfl) ?_
 exact zN
 refine XP (N _ ⟨(cdP c ps cs (p.1,decide (0=1))),(as_++([(q,(c.1.length:Int),false,ixP ps (p.1,decide (0=1)))])),(psP ps (p.1,decide (0=1))),(by (rw[Qpo (by rw[Qv ‹_›]; assumption) ‹_›]; rfl)),(by (exact ⟨XV,XU,by simp⟩)),rfl⟩) ?_
 exact wp [(5,39),(6,40),(7,42)] ⟨rfl,rfl,rfl,rfl,(Qe (by first | rfl | simp)),trivial⟩
 have K:=ab u
 refine w4 ?_
 refine cd_ (fun _ _=> ?_) fun _ _=> ?_
 refine w9 ?_
 refine lc (Qr (Qa rfl) (Qw 45 rfl) rfl) ?_
 refine w_ ?_
 have H:(decide (C=45))=false:=aH fun d=>absurd ((ab (u)).symm.trans d) (by decide)
 have X:=aa H
 try rw[H]
 refine w6 ?_
 refine XP (N _ ⟨cs,as_,ps,(by (rw[QdX (fun h=>by rw[Qv ‹_›] at h; first | assumption | contradiction) (fun h=>by rw[Qv ‹_›] at h; first | assumption | contradiction)]; done)),(by (exact ⟨by omega,by omega,by omega⟩)),rfl⟩) ?_
 exact wo [(5,2),(6,3),(7,4)]
 apply dZ (i2 43 _ _ (io 45 (lP 0 0) :: io 46 (lP 0 5) :: io 47 (lP 0 7) :: io 48 (lR 4) :: i4 49 _ _ _ _ (⟨some 53,lI (ixP ps (p.1,decide (1=1))),[bx 0 287 [.dat Ql c.1, .dat Qm c.2.1, .dat Qu c.2.2,dS b, .ref 46, .ref 1, .ref 47, .ref 4],ar 46 3 .int ((psP ps (p.1,decide (1=1))).map ZI),ar 1 44 Qz ss,ar 47 9 .str (cdP c ps cs (p.1,decide (1=1))),ar 4 46 Qs as_,(0,none),(2,none),(1,none),(3,none),(4,none)]⟩ :: io 54 (ag [dI q,dI (c.1.length:Int),dB true,dI (ixP ps (p.1,decide (1=1)))]) :: ⟨some 55,lR 48,[ar 48 46 Qs ([(q,(c.1.length:Int),true,ixP ps (p.1,decide (1=1)))])]⟩ :: ⟨some 56,lR 49,[ar 49 46 Qs (as_++([(q,(c.1.length:Int),true,ixP ps (p.1,decide (1=1)))])),(4,none),(48,none)]⟩ :: i3 57 _ _ _ [⟨none,lf (.val undef),[bx 0 287 [.dat Ql c.1, .dat Qm c.2.1, .dat Qu c.2.2,dS b, .ref 46, .ref 1, .ref 47, .ref 49]]⟩]))) [0,1,1,1,1,1,63,127,255,511,255,63,63,1,0,0,0,0]
 refine z2 ?_
 refine zz (fun _ d=>by rcases d.en2 0 10 rfl with g | g <;> exact ac (Wl (d.v rfl) (by rw[g]; rfl) rfl) rfl)<|zz (fun _ d=>by rcases d.en2 0 10 rfl with g | g <;> exact ac (ZL (d.v rfl) Hu (by rw[g]; rfl) rfl) rfl)<|zz (fun _ d=>by rcases d.en2 0 10 rfl with g | g <;> exact ac (ZL (d.v rfl) JE (by rw[g]; rfl) rfl) rfl)<|zz (fun _ d=>by rcases d.en2 0 10 rfl with g | g <;> exact ac (Xk (d.v rfl) g UL rfl rfl) rfl) ?_
 refine z4 ?_
 refine zz (fun _ d=>ac (dP 43 [(2,4),(3,2),(4,3)] (ZG c b ps ss cs as_ p.1 1 (by omega) (by omega) U (by omega) (by omega)) XZ) rfl) ?_
 refine zz (fun _ d=>ac (Qg QcF ⟨_,_,rfl,(d.w rfl),⟨_,_,rfl,(d.w rfl),⟨_,_,rfl,(Evl.ev Ze),⟨_,_,rfl,(d.w rfl),rfl⟩⟩⟩⟩ (au.1 rfl) rfl rfl) rfl) ?_
 refine zz (fun _ d=>ac (dBs 48 (e:=Qs) Zg (hab:=by exact ⟨_,_,_,_,rfl,⟨[dI q],[dI (c.1.length:Int),dB true,dI (ixP ps (p.1,decide (1=1)))],_,_,_,_,rfl,rfl,⟨rfl,rfl⟩,⟨[dI (c.1.length:Int)],[dB true,dI (ixP ps (p.1,decide (1=1)))],_,_,_,_,rfl,rfl,⟨rfl,rfl⟩,⟨[dB true],[dI (ixP ps (p.1,decide (1=1)))],_,_,_,_,rfl,rfl,⟨rfl,rfl⟩,⟨rfl,rfl⟩,rfl⟩,rfl⟩,rfl⟩,⟨rfl,rfl⟩,rfl⟩)) rfl) ?_
 refine zz (fun _ d=>ac (dA 49 UM) rfl) ?_
 refine z3 ?_
 refine zz (fun _ d=>ac (QO (d.v rfl) (d.en 0 rfl) (d.w rfl) (by simp only[QQ,Xz,aY,br]; rw[(d.en 49 rfl)]; rfl) UL rfl) rfl) ?_
 exact zN
 refine w8 ?_
 refine lc (Qr (Qa rfl) (Qw 45 rfl) rfl) ?_
 refine w_ ?_
 have I:(decide (C=45))=false:=aH fun d=>absurd ((ab (u)).symm.trans d) (by decide)
 have Y:=aa I
 try rw[I]
 refine w6 ?_
 refine XP (N _ ⟨(cdP c ps cs (p.1,decide (1=1))),(as_++([(q,(c.1.length:Int),true,ixP ps (p.1,decide (1=1)))])),(psP ps (p.1,decide (1=1))),(by (rw[Qrn (by rw[Qv ‹_›]; assumption) ‹_›]; rfl)),(by (exact ⟨XV,XU,by simp⟩)),rfl⟩) ?_
 exact wp [(5,46),(6,47),(7,49)] ⟨rfl,rfl,rfl,rfl,(Qe (by first | rfl | simp)),trivial⟩
end Go.Proofs.YtgpdhgadmjfokaaGreat
