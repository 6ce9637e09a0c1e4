/- Walks over abstract states: the reference puts a signal in. -/
import Derived.Test.YtgpdhgadmjfokaaGreatVf
set_option linter.unusedSimpArgs false
set_option linter.unusedVariables false
set_option linter.unusedSectionVars false
namespace Go.Proofs.YtgpdhgadmjfokaaGreat
open Go.RowKit
set_option maxRecDepth 100000
set_option maxHeartbeats 4000000
def vB (b:Bool):Int:=if b then 1 else 0
def Zp (p:PSt):Int:=2*p.1+vB p.2
def Qad (x:UInt8)(v:Int):Bool:=if x=48 then decide (v=0) else if x=49 then decide (v=1) else true
section
variable {c:DSg}{s:ByteArray}{ps:List PSt}{p:PSt}{cs:List ByteArray}{i:Nat}{k v z q:Int}{code:ByteArray}{a:DAr}
theorem UD (b:Bool):vB b=0∨vB b=1:=by cases b <;> simp[vB]
theorem Qcl (b:Bool):decide (vB b=1)=b:=by cases b <;> rfl
theorem HJ (hv:v=0∨v=1):Zp p=2*k+v↔p=(k,decide (v=1)):=by
 obtain ⟨x,b⟩:=p
 simp only[Zp,Prod.mk.injEq]
 have:=UD b
 constructor
 ·intro h
  have d:x=k:=by omega
  have e:vB b=v:=by omega
  refine ⟨d, ?_⟩
  rw[← e,Qcl]
 ·rintro ⟨rfl,rfl⟩
  rcases hv with rfl | rfl <;> rfl
theorem Qo8 {α:Type _}[BEq α][LawfulBEq α]{l:List α}{i:Nat}{x:α}(h:l[i]? =some x)(b:∀j,j < i→l[j]? ≠some x):l.idxOf x=i:=by
 induction l generalizing i with
 | nil=>simp at h
 | cons y l e=>
  cases i with
  | zero=>simp at h; subst h; simp
  | succ i=>
   have d:y≠x:=by have:=b 0 (by omega); simpa using this
   rw[List.idxOf_cons,show (y==x)=false by simpa using d]
   simp only[cond_false]
   rw[e (by simpa using h) fun j f=>by have:=b (j+1) (by omega); simpa using this]
abbrev Qfl (k v:Int):Int→Bool:=fun z=>decide (z=2*k+v)
theorem Qdl (h:(ps.map Zp)[i]? =some z):∃p,ps[i]? =some p∧z=Zp p:=by
 rw[aW] at h
 cases b:ps[i]? with
 | none=>rw[b] at h; cases h
 | some p=>rw[b] at h; exact ⟨p,rfl,(cG h).symm⟩
theorem QnK (hv:v=0∨v=1)(f:NoneTo (Qfl k v) (ps.map Zp) i)(l:(ps.map Zp)[i]? =some z)(m:z=2*k+v):ps[i]? =some (k,decide (v=1))∧(i:Int)=ixP ps (k,decide (v=1)):=by
 obtain ⟨p,b,d⟩:=Qdl l
 have e:=(HJ hv).1 (d.symm.trans m)
 rw[e] at b
 refine ⟨b, ?_⟩
 unfold ixP
 rw[Qo8 b fun j g h=> ?_]
 have:=f j g (Zp (k,decide (v=1))) (by rw[aW,h]; rfl)
 simp only[bT] at this
 exact this ((HJ hv).2 rfl)
theorem Quk (hv:v=0∨v=1)(b:NoneTo (Qfl k v) (ps.map Zp) i)(d:(ps.map Zp)[i]? =some z)(e:z=2*k+v):(i:Int)=ixP ps (k,decide (v=1)):=(QnK hv b d e).2
theorem QuC (hv:v=0∨v=1)(b:NoneTo (Qfl k v) (ps.map Zp) i)(d:(ps.map Zp)[i]? =some z)(e:z=2*k+v):ps.map Zp=(psP ps (k,decide (v=1))).map Zp:=by
 unfold psP; rw[if_pos (ai (QnK hv b d e).1)]
theorem QuH (hv:v=0∨v=1)(b:NoneTo (Qfl k v) (ps.map Zp) i)(d:(ps.map Zp)[i]? =some z)(e:z=2*k+v):cs=cdP c ps cs (k,decide (v=1)):=by
 unfold cdP; rw[if_pos (ai (QnK hv b d e).1)]
theorem QhC (hv:v=0∨v=1)(d:NoneTo (Qfl k v) (ps.map Zp) i)(hi:ps.length≤i):(k,decide (v=1))∉ps:=fun e=>by
 obtain ⟨j,b⟩:=aJ.1 e
 have f:=(ae.1 b).1
 have:=d j (by omega) (Zp (k,decide (v=1))) (by rw[aW,b]; rfl)
 simp only[bT] at this
 exact this ((HJ hv).2 rfl)
theorem QtG (hv:v=0∨v=1)(b:NoneTo (Qfl k v) (ps.map Zp) i)(hi:ps.length≤i):(((ps.map Zp)++[2*k+v]).length:Int) - 1=ixP ps (k,decide (v=1)):=by
 unfold ixP; rw[List.idxOf_eq_length (QhC hv b hi)]; simp
theorem Quw (hv:v=0∨v=1)(b:NoneTo (Qfl k v) (ps.map Zp) i)(hi:ps.length≤i):ps.map Zp++[2*k+v]=(psP ps (k,decide (v=1))).map Zp:=by
 unfold psP; rw[if_neg (QhC hv b hi),bB,List.map_singleton,(HJ hv).2 rfl]
theorem QuI (hv:v=0∨v=1)(b:NoneTo (Qfl k v) (ps.map Zp) i)(hi:ps.length≤i)(d:c.2.1[k.toNat]? =some code):cs++[code++⟨#[UInt8.ofNat (48+v).toNat]⟩]=cdP c ps cs (k,decide (v=1)):=by
 unfold cdP; rw[if_neg (QhC hv b hi),Wr d]
 rcases hv with rfl | rfl <;> rfl
theorem QgW:Zp p / 2=p.1:=by have:=UD p.2; unfold Zp; omega
theorem QoZ:Zp p % 2=vB p.2:=by have:=UD p.2; unfold Zp; omega
theorem Qg2 (b:Qad (bAt s a.2.2.2) (vB p.2)=false):Yi s p a=true:=by
 unfold Qad at b
 unfold Yi
 cases d:p.2 <;> rw[d] at b <;> revert b <;> (repeat' split) <;> simp_all [vB]
theorem Qik (d:a.1=p.1)(b:ZP s a=true)(f:(decide (bAt s p.1=43)==decide (vB p.2=0))=true):Yi s p a=true:=by
 unfold Yi
 rw[b]
 have:ZA s p=true:=by
  unfold ZP at b
  unfold ZA
  rw[d] at b
  cases e:p.2 <;> rw[e] at f <;> simp_all [vB]
 simp[this]
theorem Qha (h:a.1=p.1)(e:Qad (bAt s a.2.2.2) (vB p.2)=true)(b:ZP s a=false∨(decide (bAt s p.1=43)==decide (vB p.2=0))=false):Yi s p a=false:=by
 have g:(ZA s p&&ZP s a)=false:=by
  rcases b with b | b
  ·rw[b,Bool.and_false]
  ·cases f:ZP s a with
   | false=>rw[Bool.and_false]
   | true=>
    unfold ZP at f
    unfold ZA
    rw[h] at f
    cases d:p.2 <;> rw[d] at b <;> simp_all [vB]
 unfold Yi
 rw[g]
 unfold Qad at e
 cases d:p.2 <;> rw[d] at e <;> revert e <;> (repeat' split) <;> simp_all [vB]
theorem Qn3 (h:ZA s p=true):(bAt s p.1=43∧p.2=false)∨(bAt s p.1=45∧p.2=true):=by
 unfold ZA at h
 simpa using h
theorem Qnt {st:Ins}(b:bAt s p.1=43)(d:vB p.2=0):Qag c s st q p=VD c st q ((c.1.length:Int),true) (p.1,decide ((1:Int)=1)):=by
 have e:p.2=false:=by cases h:p.2 <;> rw[h] at d <;> simp[vB] at d
 rw[HK (by unfold ZA; rw[b,e]; rfl),b,e]; rfl
theorem QlR {st:Ins}(b:bAt s p.1=45)(d:vB p.2=1):Qag c s st q p=VD c st q ((c.1.length:Int),false) (p.1,decide ((0:Int)=1)):=by
 have e:p.2=true:=by cases h:p.2 <;> rw[h] at d <;> simp[vB] at d
 rw[HK (by unfold ZA; rw[b,e]; rfl),b,e]; rfl
theorem Qdf {st:Ins}(e:bAt s p.1=43→¬vB p.2=0)(f:bAt s p.1=45→¬vB p.2=1):Qag c s st q p=st:=by
 refine Qb5 ?_
 cases h:ZA s p with
 | false=>rfl
 | true=>
  rcases Qn3 h with ⟨b,d⟩ | ⟨b,d⟩
  ·exact absurd (by rw[d]; rfl) (e b)
  ·exact absurd (by rw[d]; rfl) (f b)
end
theorem Qdx (n:Int)(t:0≤n∧n≤9):FC Tryz.prog 337 [(false,[dI n])] [] 0 (Q7 (lf (dS (⟨#[UInt8.ofNat (48+n).toNat]⟩:ByteArray)))):=by
 have d:decide (n < 10)=true:=aT (by omega)
 refine Qu Tryz.func337 rfl rfl Tryz.ntmps337 fun o l m g r j h=> ?_
 refine acI 0 fun _=> ?_
 refine w8 ?_
 cases b:(decide (n < 10))
 exact absurd (b.symm.trans (show (decide (n < 10))=true from d)) (by decide)
 have f:=ab b
 refine w4 ?_
 refine lc (Ql5 (Qa rfl) Vk WR (by omega) (by omega) rfl) ?_
 refine lc (dBs 0 (e:= .u8) Qk4) ?_
 refine lc (Zk (ys:=[UInt8.ofNat (48+n).toNat]) (YY (Qa rfl) rfl) Z7 WR Q9 rfl) ?_
 refine w3 ?_
 exact fe_ l
theorem Zl (c:DSg)(b:ByteArray)(ps:List PSt)(t:List QB)(cs:List ByteArray)(as_:List DAr)(k:Int)(v:Int)(M:0≤k∧k < (c.2.1.length:Int))(hv:v=0∨v=1)(E:∀x∈c.2.1,x.size≤1000)(K:ps.length≤1000000∧cs.length≤1000000)(L:c.2.1.length≤1000000):FC Tryz.prog 311 [(false,[.ptr 0 0]),(false,[dI k]),(false,[dI v])] [bx 0 287 [.dat Qj c.1, .dat Qm c.2.1, .dat Qw c.2.2,dS b, .ref 3, .ref 1, .ref 4, .ref 2],ar 3 3 .int (ps.map Zp),ar 1 44 Qz t,ar 4 9 .str cs,ar 2 46 QG as_] 3 (Is (lI (ixP ps (k,decide (v=1)))) [bx 0 287 [.dat Qj c.1, .dat Qm c.2.1, .dat Qw c.2.2,dS b, .ref 3, .ref 1, .ref 4, .ref 2],ar 3 3 .int ((psP ps (k,decide (v=1))).map Zp),ar 1 44 Qz t,ar 4 9 .str (cdP c ps cs (k,decide (v=1))),ar 2 46 QG as_]):=by
 have F:(ps.map Zp).length=ps.length:=aE ..
 refine Qu Tryz.func311 rfl rfl Tryz.ntmps311 fun I y G A J D C=> ?_
 refine acI 1 fun _=> ?_
 refine acI 2 fun _=> ?_
 refine w13 ?_
 refine lpK ps.length (fun i=>NoneTo (Qfl k v) (ps.map Zp) i) (fun i=>⟨[(0,lP 0 0),(1,lI k),(2,lI v),(12,lR 3),(13,lI ((ps.map Zp).length:Int)),(14,lI (i:Int))],[bx 0 287 [.dat Qj c.1, .dat Qm c.2.1, .dat Qw c.2.2,dS b, .ref 3, .ref 1, .ref 4, .ref 2],ar 1 44 Qz t,ar 2 46 QG as_,ar 3 3 .int (ps.map Zp),ar 4 9 .str cs]⟩) (NoneTo.zero) ?_ fun i _ h=> ?_
 exact wo []
 refine w4 ?_
 cases l:(decide ((i:Int) < ((ps.map Zp).length:Int)))
 have m:=aa l
 refine w10 ?_
 refine lc (Qc5 (Qo rfl) (Qa rfl) rfl (by first | omega | (simp only[ah,aE,ap,aD]; omega))) ?_
 refine w_ ?_
 refine lc (Xd (Qa rfl) (Qa rfl) rfl (by first | omega | (simp only[ah,aE,ap,aD]; omega))) ?_
 refine lc (dBs 5 (e:= .int) Yz) ?_
 refine lc (dA 6 Xe) ?_
 refine w4 ?_
 obtain ⟨u,r⟩:=gx c.2.1 ((k).toNat)
 have o:=E _ (ai r)
 apply dW (i9 40 _ _ _ _ _ _ _ _ _ (i6 49 _ _ _ _ _ _ (io 55 (lf (dS (⟨#[UInt8.ofNat (48+v).toNat]⟩:ByteArray))) :: io 56 (lf (dS (u++(⟨#[UInt8.ofNat (48+v).toNat]⟩:ByteArray)))) :: ⟨some 57,lR 7,[ar 7 9 .str ([u++(⟨#[UInt8.ofNat (48+v).toNat]⟩:ByteArray)])]⟩ :: ⟨some 58,lR 8,[ar 8 9 .str (cs++([u++(⟨#[UInt8.ofNat (48+v).toNat]⟩:ByteArray)])),(4,none),(7,none)]⟩ :: i3 59 _ _ _ [⟨none,lf (.val undef),[bx 0 287 [.dat Qj c.1, .dat Qm c.2.1, .dat Qw c.2.2,dS b, .ref 6, .ref 1, .ref 8, .ref 2]]⟩]))) [0,1,1,1,1,1,63,63,63,63,63,2047,63,63,16383,16383,63,63,1,0,0,0,0]
 refine z15 ?_
 refine zz (fun _ d=>ac (dK (Qdx v (by omega)) Qi9) rfl) ?_
 refine zz (fun _ d=>ac (Q8 (d.v rfl) (d.v rfl) rfl (by first | omega | (simp only[YO]; omega))) rfl) ?_
 refine zz (fun _ d=>ac (dBs 7 (e:= .str) WE) rfl) ?_
 refine zz (fun _ d=>ac (dA 8 Ji) rfl) ?_
 refine z3 ?_
 refine zz (fun _ d=>ac (QX (d.v rfl) (d.en 0 rfl) (d.w rfl) (by simp only[Q2,WB,bj,bz]; rw[(d.en 8 rfl)]; rfl) QiL rfl) rfl) ?_
 exact zN
 refine w6 ?_
 refine lc (Wl (Qa rfl) (Qo rfl) rfl (by first | omega | (simp only[ah,aE,ap,aD]; omega))) ?_
 refine w3 ?_
 have B:((((ps.map Zp)++([(2*k)+v])).length:Int) - 1:Int)=(ixP ps (k,decide (v=1))):=by
  exact QtG hv h (by omega)
 exact fi_ [(3,6),(4,8)] y ⟨rfl,(Qh (by exact Quw hv h (by omega))),rfl,(Qh (by exact QuI hv h (by omega) ‹_›)),rfl,trivial⟩ (h0:=by rw[B] <;> rfl)
 have m:=ab l
 refine w7 ?_
 obtain ⟨H,f⟩:=gx (ps.map Zp) i
 refine w_ ?_
 refine alI 18 fun _=> ?_
 refine w6 ?_
 refine lc (Qc5 (Qo rfl) (Qa rfl) rfl (by first | omega | (simp only[ah,aE,ap,aD]; omega))) ?_
 refine w_ ?_
 refine lc (Xd (Qa rfl) (Qa rfl) rfl (by first | omega | (simp only[ah,aE,ap,aD]; omega))) ?_
 refine w2 ?_
 cases g:(decide (H=((2*k)+v)))
 have j:=aa g
 refine w4 ?_
 refine lc (Xd (Qa rfl) (Qo rfl) rfl (by first | omega | (simp only[ah,aE,ap,aD]; omega))) ?_
 refine w_ ?_
 refine Qc ?_
 refine lK_ (h.step f ‹_›) ?_
 exact wo []
 have j:=ab g
 refine w6 ?_
 have n:((i:Int):Int)=(ixP ps (k,decide (v=1))):=by
  exact Quk hv h f ‹_›
 exact fi_ [] y ⟨rfl,(Qh (by exact QuC hv h f ‹_›)),rfl,(Qh (by exact QuH hv h f ‹_›)),rfl,trivial⟩ (h0:=by rw[n] <;> rfl)
theorem V6 (c:DSg)(b:ByteArray)(ps:List PSt)(e:List QB)(cs:List ByteArray)(as_:List DAr)(k:Int)(v:Int)(u:0≤k∧k < (b.size:Int)):FC Tryz.prog 401 [(false,[.ptr 0 0]),(false,[dI k]),(false,[dI v])] [bx 0 287 [.dat Qj c.1, .dat Qm c.2.1, .dat Qw c.2.2,dS b, .ref 1, .ref 2, .ref 3, .ref 4],ar 1 3 .int (ps.map Zp),ar 2 44 Qz e,ar 3 9 .str cs,ar 4 46 QG as_] 5 (Is (lB (Qad (bAt b k) v)) [bx 0 287 [.dat Qj c.1, .dat Qm c.2.1, .dat Qw c.2.2,dS b, .ref 1, .ref 2, .ref 3, .ref 4],ar 1 3 .int (ps.map Zp),ar 2 44 Qz e,ar 3 9 .str cs,ar 4 46 QG as_]):=by
 refine Qu Tryz.func401 rfl rfl Tryz.ntmps401 fun r d o f t m l=> ?_
 refine acI 1 fun _=> ?_
 refine acI 2 fun _=> ?_
 refine w10 ?_
 obtain ⟨c3,n⟩:=gs b ((k).toNat)
 refine w4 ?_
 refine lc (Qp (Qa rfl) (Qs 48 rfl) rfl) ?_
 refine w2 ?_
 refine cd_ (fun _ _=> ?_) fun _ _=> ?_
 refine w_ ?_
 refine lc (Qp (Qa rfl) (Qs 49 rfl) rfl) ?_
 refine w2 ?_
 refine cd_ (fun _ _=> ?_) fun _ _=> ?_
 refine w6 ?_
 have g:(true:Bool)=(Qad (bAt b k) v):=by
  first | (unfold Qad; rw[Qq ‹_›]; simp[*]; done)
 exact fi_ [] d ⟨rfl,rfl,rfl,rfl,rfl,trivial⟩ (h0:=by rw[← g] <;> rfl)
 refine w6 ?_
 have h:(decide (v=1):Bool)=(Qad (bAt b k) v):=by
  first | (unfold Qad; rw[Qq ‹_›]; simp[*]; done)
 exact fi_ [] d ⟨rfl,rfl,rfl,rfl,rfl,trivial⟩ (h0:=by rw[h] <;> rfl)
 refine w6 ?_
 have j:(decide (v=0):Bool)=(Qad (bAt b k) v):=by
  first | (unfold Qad; rw[Qq ‹_›]; simp[*]; done)
 exact fi_ [] d ⟨rfl,rfl,rfl,rfl,rfl,trivial⟩ (h0:=by rw[j] <;> rfl)
theorem JX (c:DSg)(b:ByteArray)(ps:List PSt)(y:List QB)(cs:List ByteArray)(as_:List DAr)(q:Int)(hk:0≤q∧q < (ps.length:Int))(N:SignsOk c b)(R:∀p∈ps,0≤p.1∧p.1 < (c.2.1.length:Int))(hl:ps.length≤10000∧cs.length≤10000∧as_.length≤90000000):FC Tryz.prog 312 [(false,[.ptr 0 0]),(false,[dI q])] [bx 0 287 [.dat Qj c.1, .dat Qm c.2.1, .dat Qw c.2.2,dS b, .ref 2, .ref 1, .ref 3, .ref 4],ar 2 3 .int (ps.map Zp),ar 1 44 Qz y,ar 3 9 .str cs,ar 4 46 QG as_] 2 (Is (PV.tup []) [bx 0 287 [.dat Qj c.1, .dat Qm c.2.1, .dat Qw c.2.2,dS b, .ref 2, .ref 1, .ref 3, .ref 4],ar 2 3 .int (((XG c b (ps,cs,as_) q).1).map Zp),ar 1 44 Qz y,ar 3 9 .str ((XG c b (ps,cs,as_) q).2.1),ar 4 46 QG ((XG c b (ps,cs,as_) q).2.2)]):=by
 have c2:=N.2.1
 have b9:=N.2.2.some_
 have b3:=N.2.2.few
 have c1:=VY N.2.2.sigs
 have V:∀x∈c.2.1,x.size≤1000:=fun x hx=>by have:=(N.2.2.codes x hx).2; omega
 have b8:(ps.map Zp).length=ps.length:=aE ..
 refine Qu Tryz.func312 rfl rfl Tryz.ntmps312 fun O_ hO c4 a9 X_ b1 b0=> ?_
 refine acI 1 fun _=> ?_
 obtain ⟨z,E⟩:=gx (ps.map Zp) ((q).toNat)
 have a8:0≤z:=by obtain ⟨p_,W,X⟩:=Qdl E; have:=R _ (ai W); have:=UD p_.2; rw[X]; unfold Zp; omega
 apply dW (i5 10 _ _ _ _ _ (io 15 (lf (.ept 2 1 ((q).toNat) 0)) :: io 16 (lI z) :: io 17 (lI (z / 2)) :: i5 18 _ _ _ _ _ (io 23 (lf (.ept 2 1 ((q).toNat) 0)) :: io 24 (lI z) :: io 25 (lI (z % 2)) :: i2 4 _ _ []))) [0,0,0,0,15,0,0,0,255,255,255,255,4095,255,255,255,65280,0]
 refine z5 ?_
 refine zz (fun _ d=>ac (QM (e:= .int) (d.v rfl) (d.en 2 rfl) (d.v rfl) Ya Yu rfl (by omega) (by first | omega | (simp only[ay]; omega))) rfl)<|zz (fun _ d=>ac (Zv (e:= .int) (d.v rfl) (d.n 2 rfl) E rfl Yu rfl rfl) rfl)<|zz (fun _ d=>ac (QgP (d.v rfl) (Qo rfl) rfl (by omega) (by omega)) rfl) ?_
 refine z5 ?_
 refine zz (fun _ d=>ac (QM (e:= .int) (d.v rfl) (d.en 2 rfl) (d.v rfl) Ya Yu rfl (by omega) (by first | omega | (simp only[ay]; omega))) rfl)<|zz (fun _ d=>ac (Zv (e:= .int) (d.v rfl) (d.n 2 rfl) E rfl Yu rfl rfl) rfl)<|zz (fun _ d=>ac (QcZ (d.v rfl) (Qo rfl) rfl (by omega) (by omega)) rfl) ?_
 exact y2
 refine Z6 ?_
 obtain ⟨p,S,T⟩:=Qdl E
 have a1:z / 2=p.1:=by rw[T]; exact QgW
 have a2:z % 2=vB p.2:=by rw[T]; exact QoZ
 rw[a1,a2]
 have c0:=R _ (ai S)
 have b2:=Hy (l:=c.2.2) (q:=p.1)
 have c3:=UD p.2
 refine w6 ?_
 refine alL 30 fun _=> ?_
 refine w3 ?_
 refine Qc7 (fun U=>∃(B:List ByteArray) (A:List (Int×Int×Bool×Int)) (C:List PSt),((C,B,A)=Qag c b (ps,cs,as_) q p)∧(C.length≤ps.length+1∧B.length≤cs.length+1∧A.length≤as_.length+1)∧U=⟨[(0,lP 0 0),(1,lI q),(4,lI p.1),(5,lI (vB p.2))],[bx 0 287 [.dat Qj c.1, .dat Qm c.2.1, .dat Qw c.2.2,dS b, .ref 5, .ref 1, .ref 6, .ref 7],ar 1 44 Qz y,ar 5 3 .int (C.map Zp),ar 6 9 .str B,ar 7 46 QG A]⟩) ?_ fun O=> ?_
 rintro U ⟨B,A,C,hP,b5,rfl⟩
 refine w6 ?_
 refine lc (dK (QbW c p.1 (by omega)).frozen Qit) ?_
 refine alL 93 fun _=> ?_
 refine w4 ?_
 refine QQ (fun m_ U=>∃(i:Nat) (o:List ByteArray) (m:List (Int×Int×Bool×Int)) (j:List PSt),i≤(ZT c.2.2 p.1).length∧m_=(ZT c.2.2 p.1).length - i∧(XG c b (ps,cs,as_) q=((ZT c.2.2 p.1).drop i).foldl (WO c b q p) (j,o,m))∧(j.length≤ps.length+1+i∧o.length≤cs.length+1+i∧m.length≤as_.length+1+i)∧U=⟨[(0,lP 0 0),(1,lI q),(4,lI p.1),(5,lI (vB p.2)),(93,lf (.dat Qw (ZT c.2.2 p.1))),(94,lI ((ZT c.2.2 p.1).length:Int)),(95,lI (i:Int))],[bx 0 287 [.dat Qj c.1, .dat Qm c.2.1, .dat Qw c.2.2,dS b, .ref 8, .ref 1, .ref 9, .ref 10],ar 1 44 Qz y,ar 8 3 .int (j.map Zp),ar 9 9 .str o,ar 10 46 QG m]⟩) ⟨0,B,A,C,aP _,rfl,(by rw[hP]; exact QeU S),(by omega),rfl⟩ ?_ ?_
 exact wo [(8,5),(9,6),(10,7)]
 rintro m_ U ⟨i,o,m,j,b4,b7,F,b6,rfl⟩
 refine w4 ?_
 cases P:(decide ((i:Int) < ((ZT c.2.2 p.1).length:Int)))
 have Q:=aa P
 refine w2 ?_
 refine (?_:fin _ _ _ _ .normal _)
 exact fi_ [(2,8),(3,9),(4,10)] hO ⟨rfl,(Qh (by (rw[F,WV (by omega)]; done))),rfl,(Qh (by (rw[F,WV (by omega)]; done))),(Qh (by (rw[F,WV (by omega)]; done))),trivial⟩
 have Q:=ab P
 refine w5 ?_
 obtain ⟨f,r⟩:=gx (ZT c.2.2 p.1) i
 have t:=Kv.1 (ai r)
 have a0:=N.at_ t.1
 refine w2 ?_
 refine lc (xal 11 QG Zu) ?_
 refine w2 ?_
 cases G:(ZP b f)
 apply dW (i5 99 _ _ _ _ _ (io 104 (lB false) :: i9 105 _ _ _ _ _ _ _ _ _ (i3 114 _ _ _ [io 9 _]))) [0,0,0,0,15,0,0,0,0,0,0,1920,0,0,16256,16256,0,0,0]
 refine z5 ?_
 refine zz (fun _ d=>ac (Qy (G) (dK (X9 b f (by omega) (by omega)) JF)) rfl) ?_
 exact y13
 refine w4 ?_
 refine alI 119 fun _=> ?_
 refine w_ ?_
 refine lc (dP 12 [(1,8),(2,1),(3,9),(4,10)] (V6 c b j y o m f.2.2.2 (vB p.2) (by omega)) QcL) ?_
 refine w_ ?_
 cases a3:(Qad (bAt b f.2.2.2) (vB p.2))
 refine w10 ?_
 refine Qc<|Zs ⟨i+1,o,m,j,by omega,rfl,(by (rw[F,ZC r,Y0 (Qg2 ‹_›)]; done)),(by omega),rfl⟩ (by omega) ?_
 exact wo []
 refine w5 ?_
 apply dV (i2 126 _ _ (io 128 (lP 0 0) :: io 129 (lP 0 5) :: io 130 (lP 0 7) :: io 131 (lR 10) :: i9 132 _ _ _ _ _ _ _ _ _ (⟨some 141,lI (ixP j (f.2.2.2,decide ((vB p.2)=1))),[bx 0 287 [.dat Qj c.1, .dat Qm c.2.1, .dat Qw c.2.2,dS b, .ref 20, .ref 1, .ref 21, .ref 10],ar 20 3 .int ((psP j (f.2.2.2,decide ((vB p.2)=1))).map Zp),ar 1 44 Qz y,ar 21 9 .str (cdP c j o (f.2.2.2,decide ((vB p.2)=1))),ar 10 46 QG m,(0,none),(8,none),(1,none),(9,none),(10,none)]⟩ :: io 142 (ag [dI q,dI f.2.1,dB f.2.2.1,dI (ixP j (f.2.2.2,decide ((vB p.2)=1)))]) :: ⟨some 143,lR 22,[ar 22 46 QG ([(q,f.2.1,f.2.2.1,ixP j (f.2.2.2,decide ((vB p.2)=1)))])]⟩ :: ⟨some 144,lR 23,[ar 23 46 QG (m++([(q,f.2.1,f.2.2.1,ixP j (f.2.2.2,decide ((vB p.2)=1)))])),(10,none),(22,none)]⟩ :: i3 145 _ _ _ [⟨none,lf (.val undef),[bx 0 287 [.dat Qj c.1, .dat Qm c.2.1, .dat Qw c.2.2,dS b, .ref 20, .ref 1, .ref 21, .ref 23]]⟩]))) [0,1,1,1,1,1,63,127,127,511,511,2047,4095,4095,16383,2047,63,63,1,0,0,0,0]
 refine z2 ?_
 refine zz (fun _ d=>by rcases d.en2 0 15 rfl with g | g <;> exact ac (Xx (d.v rfl) (by rw[g]; rfl) rfl) rfl)<|zz (fun _ d=>by rcases d.en2 0 15 rfl with g | g <;> exact ac (Zn (d.v rfl) KP (by rw[g]; rfl) rfl) rfl)<|zz (fun _ d=>by rcases d.en2 0 15 rfl with g | g <;> exact ac (Zn (d.v rfl) Kt (by rw[g]; rfl) rfl) rfl)<|zz (fun _ d=>by rcases d.en2 0 15 rfl with g | g <;> exact ac (YV (d.v rfl) g Vx rfl rfl) rfl) ?_
 refine z9 ?_
 refine zz (fun _ d=>ac (dP 17 [(2,10),(3,8),(4,9)] (Zl c b j y o m f.2.2.2 (vB p.2) (by omega) (by omega) V (by omega) (by omega)) Xm) rfl) ?_
 refine zz (fun _ d=>ac (Qi Qaz ⟨_,_,rfl,(d.w rfl),⟨_,_,rfl,(d.w rfl),⟨_,_,rfl,(d.w rfl),⟨_,_,rfl,(d.w rfl),rfl⟩⟩⟩⟩ (aq.1 rfl) rfl rfl) rfl) ?_
 refine zz (fun _ d=>ac (dBs 22 (e:=QG) Zu (hab:=by exact ⟨_,_,_,_,rfl,⟨[dI q],[dI f.2.1,dB f.2.2.1,dI (ixP j (f.2.2.2,decide ((vB p.2)=1)))],_,_,_,_,rfl,rfl,⟨rfl,rfl⟩,⟨[dI f.2.1],[dB f.2.2.1,dI (ixP j (f.2.2.2,decide ((vB p.2)=1)))],_,_,_,_,rfl,rfl,⟨rfl,rfl⟩,⟨[dB f.2.2.1],[dI (ixP j (f.2.2.2,decide ((vB p.2)=1)))],_,_,_,_,rfl,rfl,⟨rfl,rfl⟩,⟨rfl,rfl⟩,rfl⟩,rfl⟩,rfl⟩,⟨rfl,rfl⟩,rfl⟩)) rfl) ?_
 refine zz (fun _ d=>ac (dA 23 UZ) rfl) ?_
 refine z3 ?_
 refine zz (fun _ d=>ac (QX (d.v rfl) (d.en 0 rfl) (d.w rfl) (by simp only[Q2,WB,bj,bz]; rw[(d.en 23 rfl)]; rfl) Vx rfl) rfl) ?_
 exact zN
 refine w4 ?_
 refine Qc<|Zs ⟨i+1,(cdP c j o (f.2.2.2,decide ((vB p.2)=1))),(m++([(q,f.2.1,f.2.2.1,ixP j (f.2.2.2,decide ((vB p.2)=1)))])),(psP j (f.2.2.2,decide ((vB p.2)=1))),by omega,rfl,(by (rw[F,ZC r,XI (Qha t.2 ‹_› (by first | exact .inl ‹_› | exact .inr (by rw[Qq ‹_›]; assumption)))]; simp[VD,Qcl]; done)),(by (exact ⟨bg Xk (by omega),bg Xi (by omega),by rw[ah]; simp; omega⟩)),rfl⟩ (by omega) ?_
 exact wp [(8,20),(9,21),(10,23)] ⟨rfl,rfl,rfl,rfl,(Qh (by first | rfl | simp)),trivial⟩
 obtain ⟨K,a6⟩:=gs b ((p.1).toNat)
 apply dW (i5 99 _ _ _ _ _ (io 104 (lB true) :: i7 105 _ _ _ _ _ _ _ (io 112 (lB (decide (K=43))) :: i2 113 _ _ [io 115 (lB ((decide (K=43))==(decide ((vB p.2)=0)))),io 116 _,io 9 _]))) [0,0,0,0,15,0,0,0,0,0,0,1920,0,0,16256,16256,0,0,0]
 refine z5 ?_
 refine zz (fun _ d=>ac (Qy (G) (dK (X9 b f (by omega) (by omega)) JF)) rfl) ?_
 refine z7 ?_
 refine zz (fun _ d=>day rfl (d.k rfl) (Qp (d.v rfl) (Qs 43 rfl) rfl) rfl) ?_
 refine z2 ?_
 refine zz (fun _ d=>day rfl (d.k rfl) (KQ (d.v rfl) (d.v rfl) rfl Wp) rfl) ?_
 exact y2
 refine w4 ?_
 refine alI 119 fun _=> ?_
 refine w_ ?_
 refine lc (dP 24 [(1,8),(2,1),(3,9),(4,10)] (V6 c b j y o m f.2.2.2 (vB p.2) (by omega)) QcL) ?_
 refine w_ ?_
 cases a4:(Qad (bAt b f.2.2.2) (vB p.2))
 refine w10 ?_
 refine Qc<|Zs ⟨i+1,o,m,j,by omega,rfl,(by (rw[F,ZC r,Y0 (Qg2 ‹_›)]; done)),(by omega),rfl⟩ (by omega) ?_
 exact wo []
 refine w4 ?_
 cases a5:((decide (K=43))==(decide ((vB p.2)=0)))
 refine w_ ?_
 apply dV (i2 126 _ _ (io 128 (lP 0 0) :: io 129 (lP 0 5) :: io 130 (lP 0 7) :: io 131 (lR 10) :: i9 132 _ _ _ _ _ _ _ _ _ (⟨some 141,lI (ixP j (f.2.2.2,decide ((vB p.2)=1))),[bx 0 287 [.dat Qj c.1, .dat Qm c.2.1, .dat Qw c.2.2,dS b, .ref 32, .ref 1, .ref 33, .ref 10],ar 32 3 .int ((psP j (f.2.2.2,decide ((vB p.2)=1))).map Zp),ar 1 44 Qz y,ar 33 9 .str (cdP c j o (f.2.2.2,decide ((vB p.2)=1))),ar 10 46 QG m,(0,none),(8,none),(1,none),(9,none),(10,none)]⟩ :: io 142 (ag [dI q,dI f.2.1,dB f.2.2.1,dI (ixP j (f.2.2.2,decide ((vB p.2)=1)))]) :: ⟨some 143,lR 34,[ar 34 46 QG ([(q,f.2.1,f.2.2.1,ixP j (f.2.2.2,decide ((vB p.2)=1)))])]⟩ :: ⟨some 144,lR 35,[ar 35 46 QG (m++([(q,f.2.1,f.2.2.1,ixP j (f.2.2.2,decide ((vB p.2)=1)))])),(10,none),(34,none)]⟩ :: i3 145 _ _ _ [⟨none,lf (.val undef),[bx 0 287 [.dat Qj c.1, .dat Qm c.2.1, .dat Qw c.2.2,dS b, .ref 32, .ref 1, .ref 33, .ref 35]]⟩]))) [0,1,1,1,1,1,63,127,127,511,511,2047,4095,4095,16383,2047,63,63,1,0,0,0,0]
 refine z2 ?_
 refine zz (fun _ d=>by rcases d.en2 0 15 rfl with g | g <;> exact ac (Xx (d.v rfl) (by rw[g]; rfl) rfl) rfl)<|zz (fun _ d=>by rcases d.en2 0 15 rfl with g | g <;> exact ac (Zn (d.v rfl) KP (by rw[g]; rfl) rfl) rfl)<|zz (fun _ d=>by rcases d.en2 0 15 rfl with g | g <;> exact ac (Zn (d.v rfl) Kt (by rw[g]; rfl) rfl) rfl)<|zz (fun _ d=>by rcases d.en2 0 15 rfl with g | g <;> exact ac (YV (d.v rfl) g Vx rfl rfl) rfl) ?_
 refine z9 ?_
 refine zz (fun _ d=>ac (dP 29 [(2,10),(3,8),(4,9)] (Zl c b j y o m f.2.2.2 (vB p.2) (by omega) (by omega) V (by omega) (by omega)) Xm) rfl) ?_
 refine zz (fun _ d=>ac (Qi Qaz ⟨_,_,rfl,(d.w rfl),⟨_,_,rfl,(d.w rfl),⟨_,_,rfl,(d.w rfl),⟨_,_,rfl,(d.w rfl),rfl⟩⟩⟩⟩ (aq.1 rfl) rfl rfl) rfl) ?_
 refine zz (fun _ d=>ac (dBs 34 (e:=QG) Zu (hab:=by exact ⟨_,_,_,_,rfl,⟨[dI q],[dI f.2.1,dB f.2.2.1,dI (ixP j (f.2.2.2,decide ((vB p.2)=1)))],_,_,_,_,rfl,rfl,⟨rfl,rfl⟩,⟨[dI f.2.1],[dB f.2.2.1,dI (ixP j (f.2.2.2,decide ((vB p.2)=1)))],_,_,_,_,rfl,rfl,⟨rfl,rfl⟩,⟨[dB f.2.2.1],[dI (ixP j (f.2.2.2,decide ((vB p.2)=1)))],_,_,_,_,rfl,rfl,⟨rfl,rfl⟩,⟨rfl,rfl⟩,rfl⟩,rfl⟩,rfl⟩,⟨rfl,rfl⟩,rfl⟩)) rfl) ?_
 refine zz (fun _ d=>ac (dA 35 UZ) rfl) ?_
 refine z3 ?_
 refine zz (fun _ d=>ac (QX (d.v rfl) (d.en 0 rfl) (d.w rfl) (by simp only[Q2,WB,bj,bz]; rw[(d.en 35 rfl)]; rfl) Vx rfl) rfl) ?_
 exact zN
 refine w4 ?_
 refine Qc<|Zs ⟨i+1,(cdP c j o (f.2.2.2,decide ((vB p.2)=1))),(m++([(q,f.2.1,f.2.2.1,ixP j (f.2.2.2,decide ((vB p.2)=1)))])),(psP j (f.2.2.2,decide ((vB p.2)=1))),by omega,rfl,(by (rw[F,ZC r,XI (Qha t.2 ‹_› (by first | exact .inl ‹_› | exact .inr (by rw[Qq ‹_›]; assumption)))]; simp[VD,Qcl]; done)),(by (exact ⟨bg Xk (by omega),bg Xi (by omega),by rw[ah]; simp; omega⟩)),rfl⟩ (by omega) ?_
 exact wp [(8,32),(9,33),(10,35)] ⟨rfl,rfl,rfl,rfl,(Qh (by first | rfl | simp)),trivial⟩
 refine w6 ?_
 refine Qc<|Zs ⟨i+1,o,m,j,by omega,rfl,(by (rw[F,ZC r,Y0 (Qik t.2 ‹_› (by rw[Qq ‹_›]; assumption))]; done)),(by omega),rfl⟩ (by omega) ?_
 exact wo []
 refine w7 ?_
 obtain ⟨D,a7⟩:=gs b ((p.1).toNat)
 refine w_ ?_
 refine lc (Qp (Qa rfl) (Qs 43 rfl) rfl) ?_
 refine w_ ?_
 cases u:(decide (D=43))
 have L:=aa u
 refine w14 ?_
 refine lc (Qp (Qa rfl) (Qs 45 rfl) rfl) ?_
 refine w_ ?_
 cases H:(decide (D=45))
 have M:=aa H
 refine w6 ?_
 refine YL (O _ ⟨cs,as_,ps,(by (rw[Qdf (fun h=>by rw[Qq ‹_›] at h; first | assumption | contradiction) (fun h=>by rw[Qq ‹_›] at h; first | assumption | contradiction)]; done)),(by (exact ⟨by omega,by omega,by omega⟩)),rfl⟩) ?_
 exact wo [(5,2),(6,3),(7,4)]
 have M:=ab H
 refine w4 ?_
 refine cd_ (fun _ _=> ?_) fun _ _=> ?_
 refine w_ ?_
 refine YL (O _ ⟨cs,as_,ps,(by (rw[Qdf (fun h=>by rw[Qq ‹_›] at h; first | assumption | contradiction) (fun h=>by rw[Qq ‹_›] at h; first | assumption | contradiction)]; done)),(by (exact ⟨by omega,by omega,by omega⟩)),rfl⟩) ?_
 exact wo [(5,2),(6,3),(7,4)]
 apply dZ (i2 71 _ _ (io 73 (lP 0 0) :: io 74 (lP 0 5) :: io 75 (lP 0 7) :: io 76 (lR 4) :: i4 77 _ _ _ _ (⟨some 81,lI (ixP ps (p.1,decide (0=1))),[bx 0 287 [.dat Qj c.1, .dat Qm c.2.1, .dat Qw c.2.2,dS b, .ref 39, .ref 1, .ref 40, .ref 4],ar 39 3 .int ((psP ps (p.1,decide (0=1))).map Zp),ar 1 44 Qz y,ar 40 9 .str (cdP c ps cs (p.1,decide (0=1))),ar 4 46 QG as_,(0,none),(2,none),(1,none),(3,none),(4,none)]⟩ :: io 82 (ag [dI q,dI (c.1.length:Int),dB false,dI (ixP ps (p.1,decide (0=1)))]) :: ⟨some 83,lR 41,[ar 41 46 QG ([(q,(c.1.length:Int),false,ixP ps (p.1,decide (0=1)))])]⟩ :: ⟨some 84,lR 42,[ar 42 46 QG (as_++([(q,(c.1.length:Int),false,ixP ps (p.1,decide (0=1)))])),(4,none),(41,none)]⟩ :: i3 85 _ _ _ [⟨none,lf (.val undef),[bx 0 287 [.dat Qj c.1, .dat Qm c.2.1, .dat Qw c.2.2,dS b, .ref 39, .ref 1, .ref 40, .ref 42]]⟩]))) [0,1,1,1,1,1,63,127,255,511,255,63,63,1,0,0,0,0]
 refine z2 ?_
 refine zz (fun _ d=>by rcases d.en2 0 10 rfl with g | g <;> exact ac (Xx (d.v rfl) (by rw[g]; rfl) rfl) rfl)<|zz (fun _ d=>by rcases d.en2 0 10 rfl with g | g <;> exact ac (Zn (d.v rfl) KP (by rw[g]; rfl) rfl) rfl)<|zz (fun _ d=>by rcases d.en2 0 10 rfl with g | g <;> exact ac (Zn (d.v rfl) Kt (by rw[g]; rfl) rfl) rfl)<|zz (fun _ d=>by rcases d.en2 0 10 rfl with g | g <;> exact ac (YV (d.v rfl) g Vx rfl rfl) rfl) ?_
 refine z4 ?_
 refine zz (fun _ d=>ac (dP 36 [(2,4),(3,2),(4,3)] (Zl c b ps y cs as_ p.1 0 (by omega) (by omega) V (by omega) (by omega)) Xm) rfl) ?_
 refine zz (fun _ d=>ac (Qi Qaz ⟨_,_,rfl,(d.w rfl),⟨_,_,rfl,(d.w rfl),⟨_,_,rfl,(d.w rfl),rfl⟩⟩⟩ (aq.1 rfl) rfl rfl) rfl) ?_
 refine zz (fun _ d=>ac (dBs 41 (e:=QG) Zu (hab:=by exact ⟨_,_,_,_,rfl,⟨[dI q],[dI (c.1.length:Int),dB false,dI (ixP ps (p.1,decide (0=1)))],_,_,_,_,rfl,rfl,⟨rfl,rfl⟩,⟨[dI (c.1.length:Int)],[dB false,dI (ixP ps (p.1,decide (0=1)))],_,_,_,_,rfl,rfl,⟨rfl,rfl⟩,⟨[dB false],[dI (ixP ps (p.1,decide (0=1)))],_,_,_,_,rfl,rfl,⟨rfl,rfl⟩,⟨rfl,rfl⟩,rfl⟩,rfl⟩,rfl⟩,⟨rfl,rfl⟩,rfl⟩)) rfl) ?_
 refine zz (fun _ d=>ac (dA 42 UZ) rfl) ?_
 refine z3 ?_
 refine zz (fun _ d=>ac (QX (d.v rfl) (d.en 0 rfl) (d.w rfl) (by simp only[Q2,WB,bj,bz]; rw[(d.en 42 rfl)]; rfl) Vx rfl) rfl) ?_
 exact zN
 refine YL (O _ ⟨(cdP c ps cs (p.1,decide (0=1))),(as_++([(q,(c.1.length:Int),false,ixP ps (p.1,decide (0=1)))])),(psP ps (p.1,decide (0=1))),(by (rw[QlR (by rw[Qq ‹_›]; assumption) ‹_›]; rfl)),(by (exact ⟨Xk,Xi,by simp⟩)),rfl⟩) ?_
 exact wp [(5,39),(6,40),(7,42)] ⟨rfl,rfl,rfl,rfl,(Qh (by first | rfl | simp)),trivial⟩
 have L:=ab u
 refine w4 ?_
 refine cd_ (fun _ _=> ?_) fun _ _=> ?_
 refine w9 ?_
 refine lc (Qp (Qa rfl) (Qs 45 rfl) rfl) ?_
 refine w_ ?_
 have I:(decide (D=45))=false:=aI fun d=>absurd ((ab (u)).symm.trans d) (by decide)
 have Y:=aa I
 try rw[I]
 refine w6 ?_
 refine YL (O _ ⟨cs,as_,ps,(by (rw[Qdf (fun h=>by rw[Qq ‹_›] at h; first | assumption | contradiction) (fun h=>by rw[Qq ‹_›] at h; first | assumption | contradiction)]; done)),(by (exact ⟨by omega,by omega,by omega⟩)),rfl⟩) ?_
 exact wo [(5,2),(6,3),(7,4)]
 apply dZ (i2 43 _ _ (io 45 (lP 0 0) :: io 46 (lP 0 5) :: io 47 (lP 0 7) :: io 48 (lR 4) :: i4 49 _ _ _ _ (⟨some 53,lI (ixP ps (p.1,decide (1=1))),[bx 0 287 [.dat Qj c.1, .dat Qm c.2.1, .dat Qw c.2.2,dS b, .ref 46, .ref 1, .ref 47, .ref 4],ar 46 3 .int ((psP ps (p.1,decide (1=1))).map Zp),ar 1 44 Qz y,ar 47 9 .str (cdP c ps cs (p.1,decide (1=1))),ar 4 46 QG as_,(0,none),(2,none),(1,none),(3,none),(4,none)]⟩ :: io 54 (ag [dI q,dI (c.1.length:Int),dB true,dI (ixP ps (p.1,decide (1=1)))]) :: ⟨some 55,lR 48,[ar 48 46 QG ([(q,(c.1.length:Int),true,ixP ps (p.1,decide (1=1)))])]⟩ :: ⟨some 56,lR 49,[ar 49 46 QG (as_++([(q,(c.1.length:Int),true,ixP ps (p.1,decide (1=1)))])),(4,none),(48,none)]⟩ :: i3 57 _ _ _ [⟨none,lf (.val undef),[bx 0 287 [.dat Qj c.1, .dat Qm c.2.1, .dat Qw c.2.2,dS b, .ref 46, .ref 1, .ref 47, .ref 49]]⟩]))) [0,1,1,1,1,1,63,127,255,511,255,63,63,1,0,0,0,0]
 refine z2 ?_
 refine zz (fun _ d=>by rcases d.en2 0 10 rfl with g | g <;> exact ac (Xx (d.v rfl) (by rw[g]; rfl) rfl) rfl)<|zz (fun _ d=>by rcases d.en2 0 10 rfl with g | g <;> exact ac (Zn (d.v rfl) KP (by rw[g]; rfl) rfl) rfl)<|zz (fun _ d=>by rcases d.en2 0 10 rfl with g | g <;> exact ac (Zn (d.v rfl) Kt (by rw[g]; rfl) rfl) rfl)<|zz (fun _ d=>by rcases d.en2 0 10 rfl with g | g <;> exact ac (YV (d.v rfl) g Vx rfl rfl) rfl) ?_
 refine z4 ?_
 refine zz (fun _ d=>ac (dP 43 [(2,4),(3,2),(4,3)] (Zl c b ps y cs as_ p.1 1 (by omega) (by omega) V (by omega) (by omega)) Xm) rfl) ?_
 refine zz (fun _ d=>ac (Qi Qaz ⟨_,_,rfl,(d.w rfl),⟨_,_,rfl,(d.w rfl),⟨_,_,rfl,(Evl.ev Zg),⟨_,_,rfl,(d.w rfl),rfl⟩⟩⟩⟩ (aq.1 rfl) rfl rfl) rfl) ?_
 refine zz (fun _ d=>ac (dBs 48 (e:=QG) Zu (hab:=by exact ⟨_,_,_,_,rfl,⟨[dI q],[dI (c.1.length:Int),dB true,dI (ixP ps (p.1,decide (1=1)))],_,_,_,_,rfl,rfl,⟨rfl,rfl⟩,⟨[dI (c.1.length:Int)],[dB true,dI (ixP ps (p.1,decide (1=1)))],_,_,_,_,rfl,rfl,⟨rfl,rfl⟩,⟨[dB true],[dI (ixP ps (p.1,decide (1=1)))],_,_,_,_,rfl,rfl,⟨rfl,rfl⟩,⟨rfl,rfl⟩,rfl⟩,rfl⟩,rfl⟩,⟨rfl,rfl⟩,rfl⟩)) rfl) ?_
 refine zz (fun _ d=>ac (dA 49 UZ) rfl) ?_
 refine z3 ?_
 refine zz (fun _ d=>ac (QX (d.v rfl) (d.en 0 rfl) (d.w rfl) (by simp only[Q2,WB,bj,bz]; rw[(d.en 49 rfl)]; rfl) Vx rfl) rfl) ?_
 exact zN
 refine w8 ?_
 refine lc (Qp (Qa rfl) (Qs 45 rfl) rfl) ?_
 refine w_ ?_
 have J:(decide (D=45))=false:=aI fun d=>absurd ((ab (u)).symm.trans d) (by decide)
 have Z:=aa J
 try rw[J]
 refine w6 ?_
 refine YL (O _ ⟨(cdP c ps cs (p.1,decide (1=1))),(as_++([(q,(c.1.length:Int),true,ixP ps (p.1,decide (1=1)))])),(psP ps (p.1,decide (1=1))),(by (rw[Qnt (by rw[Qq ‹_›]; assumption) ‹_›]; rfl)),(by (exact ⟨Xk,Xi,by simp⟩)),rfl⟩) ?_
 exact wp [(5,46),(6,47),(7,49)] ⟨rfl,rfl,rfl,rfl,(Qh (by first | rfl | simp)),trivial⟩
end Go.Proofs.YtgpdhgadmjfokaaGreat
