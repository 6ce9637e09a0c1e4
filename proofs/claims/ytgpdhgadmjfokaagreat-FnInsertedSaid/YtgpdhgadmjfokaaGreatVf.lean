/- Walks over abstract states: the arcs that leave a state of the new graph. -/
import Derived.Test.YtgpdhgadmjfokaaGreatVe
set_option linter.unusedSimpArgs false
set_option linter.unusedVariables false
set_option linter.unusedSectionVars false
namespace Go.Proofs.YtgpdhgadmjfokaaGreat
open Go.RowKit
set_option maxRecDepth 100000
set_option maxHeartbeats 4000000
abbrev Ins:=List PSt×List ByteArray×List DAr
def ZA (s:ByteArray)(p:PSt):Bool:=(decide (bAt s p.1=43)&& !p.2)||(decide (bAt s p.1=45)&&p.2)
def Yi (s:ByteArray)(p:PSt)(a:DAr):Bool:=(decide (bAt s a.2.2.2=48)&&p.2)||(decide (bAt s a.2.2.2=49)&& !p.2)||(ZA s p&&ZP s a)
def VD (c:DSg)(st:Ins)(k:Int)(l:QZ)(p:PSt):Ins:=(psP st.1 p,cdP c st.1 st.2.1 p,st.2.2++[(k,l.1,l.2,ixP st.1 p)])
def WO (c:DSg)(s:ByteArray)(k:Int)(p:PSt)(st:Ins)(a:DAr):Ins:=if Yi s p a=true then st else VD c st k (a.2.1,a.2.2.1) (a.2.2.2,p.2)
def Qag (c:DSg)(s:ByteArray)(st:Ins)(k:Int)(p:PSt):Ins:=if ZA s p=true then VD c st k ((c.1.length:Int),decide (bAt s p.1=43)) (p.1, !p.2) else st
def XG (c:DSg)(s:ByteArray)(st:Ins)(k:Int):Ins:=match st.1[k.toNat]? with
 | none=>st
 | some p=>(ZT c.2.2 p.1).foldl (WO c s k p) (Qag c s st k p)
section
variable {c:DSg}{s:ByteArray}{st:Ins}{k:Int}{p:PSt}{a:DAr}{i:Nat}{x:UInt8}{l:List DAr}
theorem QeU (h:st.1[k.toNat]? =some p):XG c s st k=(ZT c.2.2 p.1).foldl (WO c s k p) (Qag c s st k p):=by unfold XG; rw[h]
theorem ZC {α β:Type _}{l:List α}{f:β→α→β}{b:β}{i:Nat}{x:α}(d:l[i]? =some x):(l.drop i).foldl f b=(l.drop (i+1)).foldl f (f b x):=by rw[ZS d,ba]
theorem WV {α β:Type _}{l:List α}{f:β→α→β}{b:β}{i:Nat}(h:l.length≤i):(l.drop i).foldl f b=b:=by rw[bD h]; rfl
theorem Y0 (h:Yi s p a=true):WO c s k p st a=st:=if_pos h
theorem XI (h:Yi s p a=false):WO c s k p st a=VD c st k (a.2.1,a.2.2.1) (a.2.2.2,p.2):=if_neg (by rw[h]; decide)
theorem HK (h:ZA s p=true):Qag c s st k p=VD c st k ((c.1.length:Int),decide (bAt s p.1=43)) (p.1, !p.2):=if_pos h
theorem Qb5 (h:ZA s p=false):Qag c s st k p=st:=if_neg (by rw[h]; decide)
end
theorem Q4 (c:DSg)(f:ByteArray)(g:List QB)(cs:List ByteArray)(as_:List DAr)(ps:List PSt)(q:Int)(l:QdA)(p:QdA)(t:0≤p.1∧p.1 < (c.2.1.length:Int))(o:∀x∈c.2.1,x.size≤1000)(r:ps.length≤1000000∧cs.length≤1000000)(A:as_.length≤100000000):FC Tryz.prog 309 [(false,[.ptr 0 0]),(false,[dI q]),(true,[dI l.1,dB l.2]),(true,[dI p.1,dB p.2])] [bx 0 203 [.dat Qj c.1, .dat Qm c.2.1, .dat Qw c.2.2,dS f, .ref 1, .ref 3, .ref 4, .ref 5, .ref 2],ar 1 44 Qz g,ar 3 9 .str cs,ar 4 46 QG as_,ar 5 207 Qv ps,(2,some (.mp true Qv false .int (Yr ps)))] 3 (Is (PV.tup []) [bx 0 203 [.dat Qj c.1, .dat Qm c.2.1, .dat Qw c.2.2,dS f, .ref 1, .ref 3, .ref 4, .ref 5, .ref 2],ar 1 44 Qz g,ar 3 9 .str (cdP c ps cs p),ar 4 46 QG (as_++[(q,l.1,l.2,ixP ps p)]),ar 5 207 Qv (psP ps p),(2,some (.mp true Qv false .int (Yr (psP ps p))))]):=by
 refine Qu Tryz.func309 rfl rfl Tryz.ntmps309 fun y n u h z m j=> ?_
 refine acI 1 fun _=> ?_
 refine acG 2 0 fun _=> ?_
 refine acG 3 0 fun _=> ?_
 refine w_ ?_
 refine xbx 6 ?_
 refine xbx 7 ?_
 refine w_ ?_
 apply dV (i2 8 _ _ (io 10 (lP 0 0) :: io 11 (lP 0 4) :: io 12 (lP 0 6) :: io 13 (lR 4) :: i7 14 _ _ _ _ _ _ _ (⟨some 21,lI (ixP ps p),[bx 0 203 [.dat Qj c.1, .dat Qm c.2.1, .dat Qw c.2.2,dS f, .ref 1, .ref 12, .ref 4, .ref 13, .ref 2],ar 1 44 Qz g,ar 12 9 .str (cdP c ps cs p),ar 4 46 QG as_,ar 13 207 Qv (psP ps p),(2,some (.mp true Qv false .int (Yr (psP ps p)))),(0,none),(1,none),(3,none),(4,none),(5,none),(2,none)]⟩ :: io 22 (ag [dI q,dI l.1,dB l.2,dI (ixP ps p)]) :: ⟨some 23,lR 14,[ar 14 46 QG ([(q,l.1,l.2,ixP ps p)])]⟩ :: ⟨some 24,lR 15,[ar 15 46 QG (as_++([(q,l.1,l.2,ixP ps p)])),(4,none),(14,none)]⟩ :: i3 25 _ _ _ [⟨none,lf (.val undef),[bx 0 203 [.dat Qj c.1, .dat Qm c.2.1, .dat Qw c.2.2,dS f, .ref 1, .ref 12, .ref 15, .ref 13, .ref 2]]⟩]))) [0,1,1,1,1,1,63,127,127,511,511,2047,4095,2047,63,63,1,0,0,0,0]
 refine z2 ?_
 refine zz (fun _ b=>by rcases b.en2 0 13 rfl with d | d <;> exact ac (Xx (b.v rfl) (by rw[d]; rfl) rfl) rfl)<|zz (fun _ b=>by rcases b.en2 0 13 rfl with d | d <;> exact ac (Zn (b.v rfl) Qmn (by rw[d]; rfl) rfl) rfl)<|zz (fun _ b=>by rcases b.en2 0 13 rfl with d | d <;> exact ac (Zn (b.v rfl) Kt (by rw[d]; rfl) rfl) rfl)<|zz (fun _ b=>by rcases b.en2 0 13 rfl with d | d <;> exact ac (YV (b.v rfl) d Vx rfl rfl) rfl) ?_
 refine z7 ?_
 refine zz (fun _ b=>ac (dP 8 [(2,4),(3,2),(4,3)] (Yl c f g cs as_ ps p t o r) JO) rfl) ?_
 refine zz (fun _ b=>ac (Qi Qaz ⟨_,_,rfl,(b.w rfl),⟨_,_,rfl,(b.w rfl),⟨_,_,rfl,(b.w rfl),⟨_,_,rfl,(b.w rfl),rfl⟩⟩⟩⟩ (aq.1 rfl) rfl rfl) rfl) ?_
 refine zz (fun _ b=>ac (dBs 14 (e:=QG) Zu (hab:=by exact ⟨_,_,_,_,rfl,⟨[dI q],[dI l.1,dB l.2,dI (ixP ps p)],_,_,_,_,rfl,rfl,⟨rfl,rfl⟩,⟨[dI l.1],[dB l.2,dI (ixP ps p)],_,_,_,_,rfl,rfl,⟨rfl,rfl⟩,⟨[dB l.2],[dI (ixP ps p)],_,_,_,_,rfl,rfl,⟨rfl,rfl⟩,⟨rfl,rfl⟩,rfl⟩,rfl⟩,rfl⟩,⟨rfl,rfl⟩,rfl⟩)) rfl) ?_
 refine zz (fun _ b=>ac (dA 15 UZ) rfl) ?_
 refine z3 ?_
 refine zz (fun _ b=>ac (QX (b.v rfl) (b.en 0 rfl) (b.w rfl) (by simp only[Q2,WB,bj,bz]; rw[(b.en 15 rfl)]; rfl) Vx rfl) rfl) ?_
 exact zN
 refine (?_:fin _ _ _ _ .normal _)
 exact fi_ [(3,12),(4,15),(5,13)] n ⟨rfl,rfl,rfl,(Qh (by rfl)),rfl,rfl,trivial⟩
theorem Ud (c:DSg)(d:ByteArray)(t:List QB)(cs:List ByteArray)(as_:List DAr)(ps:List PSt)(k:Int)(hk:0≤k∧k < (ps.length:Int))(N:SignsOk c d)(U:∀p∈ps,0≤p.1∧p.1 < (c.2.1.length:Int))(hl:ps.length≤10000∧cs.length≤10000∧as_.length≤90000000):FC Tryz.prog 197 [(false,[.ptr 0 0]),(false,[dI k])] [bx 0 203 [.dat Qj c.1, .dat Qm c.2.1, .dat Qw c.2.2,dS d, .ref 1, .ref 3, .ref 4, .ref 5, .ref 2],ar 1 44 Qz t,ar 3 9 .str cs,ar 4 46 QG as_,ar 5 207 Qv ps,(2,some (.mp true Qv false .int (Yr ps)))] 3 (Is (PV.tup []) [bx 0 203 [.dat Qj c.1, .dat Qm c.2.1, .dat Qw c.2.2,dS d, .ref 1, .ref 3, .ref 4, .ref 5, .ref 2],ar 1 44 Qz t,ar 3 9 .str ((XG c d (ps,cs,as_) k).2.1),ar 4 46 QG ((XG c d (ps,cs,as_) k).2.2),ar 5 207 Qv ((XG c d (ps,cs,as_) k).1),(2,some (.mp true Qv false .int (Yr ((XG c d (ps,cs,as_) k).1))))]):=by
 have b9:=N.2.1
 have b6:=N.2.2.some_
 have b1:=N.2.2.few
 have b8:=VY N.2.2.sigs
 have G:∀x∈c.2.1,x.size≤1000:=fun x hx=>by have:=(N.2.2.codes x hx).2; omega
 refine Qu Tryz.func197 rfl rfl Tryz.ntmps197 fun O_ hO c0 a6 X_ a8 a7=> ?_
 refine acI 1 fun _=> ?_
 obtain ⟨p,M⟩:=gx ps ((k).toNat)
 have b7:=U _ (ai M)
 have W:=M
 have b0:=Hy (l:=c.2.2) (q:=p.1)
 apply dW (i5 11 _ _ _ _ _ (io 16 (lf (.ept 5 2 ((k).toNat) 0)) :: io 17 (ag [dI p.1,dB p.2]) :: i6 18 _ _ _ _ _ _ [⟨some 4,lP 6 0,[bx 6 207 [dI 0,dB false]]⟩,⟨none,lf (.val undef),[bx 6 207 [dI p.1,dB p.2]]⟩,io 5 _])) [0,0,0,0,15,0,0,127,127,127,127,127,127,8191,8064,0]
 refine z5 ?_
 refine zz (fun _ g=>ac (QM (e:=Qv) (g.v rfl) (g.en 5 rfl) (g.v rfl) QqM QkM rfl (by omega) (by first | omega | (simp only[ay]; omega))) rfl)<|zz (fun _ g=>ac (Vu (e:=Qv) (g.v rfl) (g.n 5 rfl) M rfl QkM rfl rfl) rfl) ?_
 refine z6 ?_
 refine zz (fun _ g=>ac (UB 6 Qv Qbh rfl rfl (g.fr 6 rfl) (nlr rfl)) rfl) ?_
 exact y2
 obtain ⟨c4,a9⟩:=gs d ((p.1).toNat)
 apply dW (i7 24 _ _ _ _ _ _ _ [io 6 _]) [0,0,0,0,15,15,0,0]
 exact y8
 refine Qc7 (fun S=>∃(w:Bool) (y:List (Int×Bool)) (A:List ByteArray) (z:List (Int×Int×Bool×Int)),(ZA d p=w)∧((y,A,z)=Qag c d (ps,cs,as_) k p)∧(y.length≤ps.length+1∧A.length≤cs.length+1∧z.length≤as_.length+1)∧S=⟨[(0,lP 0 0),(1,lI k),(4,lP 6 0),(7,lB w)],[bx 0 203 [.dat Qj c.1, .dat Qm c.2.1, .dat Qw c.2.2,dS d, .ref 1, .ref 8, .ref 9, .ref 7, .ref 2],ar 1 44 Qz t,(2,some (.mp true Qv false .int (Yr y))),bx 6 207 [dI p.1,dB p.2],ar 7 207 Qv y,ar 8 9 .str A,ar 9 46 QG z]⟩) ?_ fun O=> ?_
 rintro S ⟨w,y,A,z,hw,hP,b3,rfl⟩
 apply dW (i6 60 _ _ _ _ _ _ (io 66 (lf (.dat Qw (ZT c.2.2 p.1))) :: i2 67 _ _ [])) [0,0,0,0,15,15,0,0,255]
 refine z6 ?_
 refine zz (fun _ g=>ac (dK (QaG c p.1 (by omega)).frozen Qhu) rfl) ?_
 exact y2
 refine w_ ?_
 refine QQ (fun m_ S=>∃(i:Nat) (f:List (Int×Bool)) (j:List ByteArray) (h:List (Int×Int×Bool×Int)),i≤(ZT c.2.2 p.1).length∧m_=(ZT c.2.2 p.1).length - i∧(XG c d (ps,cs,as_) k=((ZT c.2.2 p.1).drop i).foldl (WO c d k p) (f,j,h))∧(f.length≤ps.length+1+i∧j.length≤cs.length+1+i∧h.length≤as_.length+1+i)∧S=⟨[(0,lP 0 0),(1,lI k),(4,lP 6 0),(7,lB w),(66,lf (.dat Qw (ZT c.2.2 p.1))),(67,lI ((ZT c.2.2 p.1).length:Int)),(68,lI (i:Int))],[bx 0 203 [.dat Qj c.1, .dat Qm c.2.1, .dat Qw c.2.2,dS d, .ref 1, .ref 11, .ref 12, .ref 10, .ref 2],ar 1 44 Qz t,(2,some (.mp true Qv false .int (Yr f))),bx 6 207 [dI p.1,dB p.2],ar 10 207 Qv f,ar 11 9 .str j,ar 12 46 QG h]⟩) ⟨0,y,A,z,aP _,rfl,(by rw[hP]; exact QeU W),(by omega),rfl⟩ ?_ ?_
 exact wo [(10,7),(11,8),(12,9)]
 rintro m_ S ⟨i,f,j,h,b2,b5,u,b4,rfl⟩
 refine w4 ?_
 cases Q:(decide ((i:Int) < ((ZT c.2.2 p.1).length:Int)))
 have R:=aa Q
 refine w2 ?_
 refine (?_:fin _ _ _ _ .normal _)
 exact fi_ [(3,11),(4,12),(5,10)] hO ⟨rfl,rfl,(Qh (by (rw[u,WV (by omega)]; done))),(Qh (by (rw[u,WV (by omega)]; done))),(Qh (by (rw[u,WV (by omega)]; done))),(Qmh (by (rw[u,WV (by omega)]; done))),trivial⟩
 have R:=ab Q
 refine w5 ?_
 obtain ⟨b,o⟩:=gx (ZT c.2.2 p.1) i
 have L:=Kv.1 (ai o)
 have V:=N.at_ L.1
 refine w2 ?_
 refine lc (xal 13 QG Zu) ?_
 refine w3 ?_
 obtain ⟨P,a5⟩:=gs d ((b.2.2.2).toNat)
 apply dW (i7 72 _ _ _ _ _ _ _ [io 10 _]) [0,0,0,0,15,15,0,0]
 exact y8
 cases m:(decide (P=48))
 have H:=aa m
 cases r:(decide (P=49))
 have I:=aa r
 cases X:(w)
 apply dW (io 79 _ :: io 80 (lB false) :: i6 81 _ _ _ _ _ _ (io 87 (lB false) :: i9 88 _ _ _ _ _ _ _ _ _ (i8 97 _ _ _ _ _ _ _ _ []))) [0,0,0,0,0,0,0,0,0,0,0,0,0,0,0,0,0,0,0,262144,262144,262144,262144,0,0,0]
 refine z_ ?_
 refine zz (fun _ g=>ac (Qy (m) (Qp (g.v rfl) (Qs 48 rfl) rfl)) rfl) ?_
 refine z6 ?_
 refine zz (fun _ g=>day rfl (g.k rfl) (Qy (r) (Qp (g.v rfl) (Qs 49 rfl) rfl)) rfl) ?_
 refine z16 ?_
 exact y1
 refine w2 ?_
 apply dV (i3 105 _ _ _ (io 108 (ag [dI b.2.1,dB b.2.2.1]) :: i4 109 _ _ _ _ [io 113 (ag [dI b.2.2.2,dB p.2]),⟨some 114,PV.tup [],[bx 0 203 [.dat Qj c.1, .dat Qm c.2.1, .dat Qw c.2.2,dS d, .ref 1, .ref 17, .ref 18, .ref 19, .ref 2],ar 1 44 Qz t,ar 17 9 .str (cdP c f j (b.2.2.2,p.2)),ar 18 46 QG (h++[(k,(b.2.1,b.2.2.1).1,(b.2.1,b.2.2.1).2,ixP f (b.2.2.2,p.2))]),ar 19 207 Qv (psP f (b.2.2.2,p.2)),(2,some (.mp true Qv false .int (Yr (psP f (b.2.2.2,p.2))))),(0,none),(1,none),(11,none),(12,none),(10,none),(2,none)]⟩])) [0,1,3,3,15,15,63,63,15,0]
 refine z3 ?_
 refine zz (fun _ g=>ac (dK (Zm b) Xp) rfl) ?_
 refine z4 ?_
 refine zz (fun _ g=>ac (Qi Wi ⟨_,_,rfl,(g.w rfl),⟨_,_,rfl,(g.w rfl),rfl⟩⟩ (aq.1 rfl) rfl rfl) rfl) ?_
 refine zz (fun _ g=>ac (dP 14 [(3,11),(4,12),(5,10)] (Q4 c d t j h f k (b.2.1,b.2.2.1) (b.2.2.2,p.2) (by refine ⟨?_, ?_⟩ <;> (try dsimp only) <;> omega) G (by omega) (by omega)) YX) rfl) ?_
 exact zN
 refine w4 ?_
 refine Qc<|Zs ⟨i+1,(psP f (b.2.2.2,p.2)),(cdP c f j (b.2.2.2,p.2)),(h++[(k,(b.2.1,b.2.2.1).1,(b.2.1,b.2.2.1).2,ixP f (b.2.2.2,p.2))]),by omega,rfl,(by (rw[u,ZC o,XI (by unfold Yi; rw[Qq ‹_›]; simp[*])]; simp[VD, *]; done)),(by (exact ⟨bg Xk (by omega),bg Xi (by omega),by rw[ah]; simp; omega⟩)),rfl⟩ (by omega) ?_
 exact wo [(10,19),(11,17),(12,18)]
 apply dW (io 79 _ :: io 80 (lB false) :: i6 81 _ _ _ _ _ _ (io 87 (lB false) :: i9 88 _ _ _ _ _ _ _ _ _ (i5 97 _ _ _ _ _ (io 102 (lB (ZP d b)) :: i2 103 _ _ [])))) [0,0,0,0,0,0,0,0,0,0,0,0,0,0,0,0,0,0,0,262144,262144,262144,262144,0,0,0]
 refine z_ ?_
 refine zz (fun _ g=>ac (Qy (m) (Qp (g.v rfl) (Qs 48 rfl) rfl)) rfl) ?_
 refine z6 ?_
 refine zz (fun _ g=>day rfl (g.k rfl) (Qy (r) (Qp (g.v rfl) (Qs 49 rfl) rfl)) rfl) ?_
 refine z14 ?_
 refine zz (fun _ g=>day rfl (g.k rfl) (dK (YJ b d (by omega) (by omega)) K1) rfl) ?_
 exact y2
 cases Y:(ZP d b)
 refine w2 ?_
 apply dV (i3 105 _ _ _ (io 108 (ag [dI b.2.1,dB b.2.2.1]) :: i4 109 _ _ _ _ [io 113 (ag [dI b.2.2.2,dB p.2]),⟨some 114,PV.tup [],[bx 0 203 [.dat Qj c.1, .dat Qm c.2.1, .dat Qw c.2.2,dS d, .ref 1, .ref 23, .ref 24, .ref 25, .ref 2],ar 1 44 Qz t,ar 23 9 .str (cdP c f j (b.2.2.2,p.2)),ar 24 46 QG (h++[(k,(b.2.1,b.2.2.1).1,(b.2.1,b.2.2.1).2,ixP f (b.2.2.2,p.2))]),ar 25 207 Qv (psP f (b.2.2.2,p.2)),(2,some (.mp true Qv false .int (Yr (psP f (b.2.2.2,p.2))))),(0,none),(1,none),(11,none),(12,none),(10,none),(2,none)]⟩])) [0,1,3,3,15,15,63,63,15,0]
 refine z3 ?_
 refine zz (fun _ g=>ac (dK (Zm b) Xp) rfl) ?_
 refine z4 ?_
 refine zz (fun _ g=>ac (Qi Wi ⟨_,_,rfl,(g.w rfl),⟨_,_,rfl,(g.w rfl),rfl⟩⟩ (aq.1 rfl) rfl rfl) rfl) ?_
 refine zz (fun _ g=>ac (dP 20 [(3,11),(4,12),(5,10)] (Q4 c d t j h f k (b.2.1,b.2.2.1) (b.2.2.2,p.2) (by refine ⟨?_, ?_⟩ <;> (try dsimp only) <;> omega) G (by omega) (by omega)) YX) rfl) ?_
 exact zN
 refine w4 ?_
 refine Qc<|Zs ⟨i+1,(psP f (b.2.2.2,p.2)),(cdP c f j (b.2.2.2,p.2)),(h++[(k,(b.2.1,b.2.2.1).1,(b.2.1,b.2.2.1).2,ixP f (b.2.2.2,p.2))]),by omega,rfl,(by (rw[u,ZC o,XI (by unfold Yi; rw[Qq ‹_›]; simp[*])]; simp[VD, *]; done)),(by (exact ⟨bg Xk (by omega),bg Xi (by omega),by rw[ah]; simp; omega⟩)),rfl⟩ (by omega) ?_
 exact wo [(10,25),(11,23),(12,24)]
 refine w6 ?_
 refine Qc<|Zs ⟨i+1,f,j,h,by omega,rfl,(by (rw[u,ZC o,Y0 (by unfold Yi; rw[Qq ‹_›]; simp[*])]; done)),(by omega),rfl⟩ (by omega) ?_
 exact wo []
 have I:=ab r
 cases Z:(p.2)
 apply dW (io 79 _ :: io 80 (lB false) :: i6 81 _ _ _ _ _ _ (io 87 (lB true) :: i9 88 _ _ _ _ _ _ _ _ _ (i8 97 _ _ _ _ _ _ _ _ []))) [0,0,0,0,0,0,0,0,0,0,0,0,0,0,0,0,0,0,0,262144,262144,262144,262144,0,0,0]
 refine z_ ?_
 refine zz (fun _ g=>ac (Qy (m) (Qp (g.v rfl) (Qs 48 rfl) rfl)) rfl) ?_
 refine z6 ?_
 refine zz (fun _ g=>day rfl (g.k rfl) (Qy (r) (Qp (g.v rfl) (Qs 49 rfl) rfl)) rfl) ?_
 refine z16 ?_
 exact y1
 refine w6 ?_
 refine Qc<|Zs ⟨i+1,f,j,h,by omega,rfl,(by (rw[u,ZC o,Y0 (by unfold Yi; rw[Qq ‹_›]; simp[*])]; done)),(by omega),rfl⟩ (by omega) ?_
 exact wo []
 cases a0:(w)
 apply dW (io 79 _ :: io 80 (lB false) :: i6 81 _ _ _ _ _ _ (io 87 (lB true) :: i9 88 _ _ _ _ _ _ _ _ _ (i8 97 _ _ _ _ _ _ _ _ []))) [0,0,0,0,0,0,0,0,0,0,0,0,0,0,0,0,0,0,0,262144,262144,262144,262144,0,0,0]
 refine z_ ?_
 refine zz (fun _ g=>ac (Qy (m) (Qp (g.v rfl) (Qs 48 rfl) rfl)) rfl) ?_
 refine z6 ?_
 refine zz (fun _ g=>day rfl (g.k rfl) (Qy (r) (Qp (g.v rfl) (Qs 49 rfl) rfl)) rfl) ?_
 refine z16 ?_
 exact y1
 refine w2 ?_
 apply dV (i3 105 _ _ _ (io 108 (ag [dI b.2.1,dB b.2.2.1]) :: i4 109 _ _ _ _ [io 113 (ag [dI b.2.2.2,dB true]),⟨some 114,PV.tup [],[bx 0 203 [.dat Qj c.1, .dat Qm c.2.1, .dat Qw c.2.2,dS d, .ref 1, .ref 29, .ref 30, .ref 31, .ref 2],ar 1 44 Qz t,ar 29 9 .str (cdP c f j (b.2.2.2,true)),ar 30 46 QG (h++[(k,(b.2.1,b.2.2.1).1,(b.2.1,b.2.2.1).2,ixP f (b.2.2.2,true))]),ar 31 207 Qv (psP f (b.2.2.2,true)),(2,some (.mp true Qv false .int (Yr (psP f (b.2.2.2,true))))),(0,none),(1,none),(11,none),(12,none),(10,none),(2,none)]⟩])) [0,1,3,3,15,15,63,63,15,0]
 refine z3 ?_
 refine zz (fun _ g=>ac (dK (Zm b) Xp) rfl) ?_
 refine z4 ?_
 refine zz (fun _ g=>ac (Qi Wi ⟨_,_,rfl,(g.w rfl),⟨_,_,rfl,(g.w rfl),rfl⟩⟩ (aq.1 rfl) rfl rfl) rfl) ?_
 refine zz (fun _ g=>ac (dP 26 [(3,11),(4,12),(5,10)] (Q4 c d t j h f k (b.2.1,b.2.2.1) (b.2.2.2,true) (by refine ⟨?_, ?_⟩ <;> (try dsimp only) <;> omega) G (by omega) (by omega)) YX) rfl) ?_
 exact zN
 refine w4 ?_
 refine Qc<|Zs ⟨i+1,(psP f (b.2.2.2,true)),(cdP c f j (b.2.2.2,true)),(h++[(k,(b.2.1,b.2.2.1).1,(b.2.1,b.2.2.1).2,ixP f (b.2.2.2,true))]),by omega,rfl,(by (rw[u,ZC o,XI (by unfold Yi; rw[Qq ‹_›]; simp[*])]; simp[VD, *]; done)),(by (exact ⟨bg Xk (by omega),bg Xi (by omega),by rw[ah]; simp; omega⟩)),rfl⟩ (by omega) ?_
 exact wo [(10,31),(11,29),(12,30)]
 apply dW (io 79 _ :: io 80 (lB false) :: i6 81 _ _ _ _ _ _ (io 87 (lB true) :: i9 88 _ _ _ _ _ _ _ _ _ (i5 97 _ _ _ _ _ (io 102 (lB (ZP d b)) :: i2 103 _ _ [])))) [0,0,0,0,0,0,0,0,0,0,0,0,0,0,0,0,0,0,0,262144,262144,262144,262144,0,0,0]
 refine z_ ?_
 refine zz (fun _ g=>ac (Qy (m) (Qp (g.v rfl) (Qs 48 rfl) rfl)) rfl) ?_
 refine z6 ?_
 refine zz (fun _ g=>day rfl (g.k rfl) (Qy (r) (Qp (g.v rfl) (Qs 49 rfl) rfl)) rfl) ?_
 refine z14 ?_
 refine zz (fun _ g=>day rfl (g.k rfl) (dK (YJ b d (by omega) (by omega)) K1) rfl) ?_
 exact y2
 cases a1:(ZP d b)
 refine w2 ?_
 apply dV (i3 105 _ _ _ (io 108 (ag [dI b.2.1,dB b.2.2.1]) :: i4 109 _ _ _ _ [io 113 (ag [dI b.2.2.2,dB true]),⟨some 114,PV.tup [],[bx 0 203 [.dat Qj c.1, .dat Qm c.2.1, .dat Qw c.2.2,dS d, .ref 1, .ref 35, .ref 36, .ref 37, .ref 2],ar 1 44 Qz t,ar 35 9 .str (cdP c f j (b.2.2.2,true)),ar 36 46 QG (h++[(k,(b.2.1,b.2.2.1).1,(b.2.1,b.2.2.1).2,ixP f (b.2.2.2,true))]),ar 37 207 Qv (psP f (b.2.2.2,true)),(2,some (.mp true Qv false .int (Yr (psP f (b.2.2.2,true))))),(0,none),(1,none),(11,none),(12,none),(10,none),(2,none)]⟩])) [0,1,3,3,15,15,63,63,15,0]
 refine z3 ?_
 refine zz (fun _ g=>ac (dK (Zm b) Xp) rfl) ?_
 refine z4 ?_
 refine zz (fun _ g=>ac (Qi Wi ⟨_,_,rfl,(g.w rfl),⟨_,_,rfl,(g.w rfl),rfl⟩⟩ (aq.1 rfl) rfl rfl) rfl) ?_
 refine zz (fun _ g=>ac (dP 32 [(3,11),(4,12),(5,10)] (Q4 c d t j h f k (b.2.1,b.2.2.1) (b.2.2.2,true) (by refine ⟨?_, ?_⟩ <;> (try dsimp only) <;> omega) G (by omega) (by omega)) YX) rfl) ?_
 exact zN
 refine w4 ?_
 refine Qc<|Zs ⟨i+1,(psP f (b.2.2.2,true)),(cdP c f j (b.2.2.2,true)),(h++[(k,(b.2.1,b.2.2.1).1,(b.2.1,b.2.2.1).2,ixP f (b.2.2.2,true))]),by omega,rfl,(by (rw[u,ZC o,XI (by unfold Yi; rw[Qq ‹_›]; simp[*])]; simp[VD, *]; done)),(by (exact ⟨bg Xk (by omega),bg Xi (by omega),by rw[ah]; simp; omega⟩)),rfl⟩ (by omega) ?_
 exact wo [(10,37),(11,35),(12,36)]
 refine w6 ?_
 refine Qc<|Zs ⟨i+1,f,j,h,by omega,rfl,(by (rw[u,ZC o,Y0 (by unfold Yi; rw[Qq ‹_›]; simp[*])]; done)),(by omega),rfl⟩ (by omega) ?_
 exact wo []
 have H:=ab m
 cases a2:(p.2)
 cases a3:(w)
 apply dW (io 79 _ :: io 80 (lB true) :: i6 81 _ _ _ _ _ _ (io 87 (lB false) :: i9 88 _ _ _ _ _ _ _ _ _ (i8 97 _ _ _ _ _ _ _ _ []))) [0,0,0,0,0,0,0,0,0,0,0,0,0,0,0,0,0,0,0,262144,262144,262144,262144,0,0,0]
 refine z_ ?_
 refine zz (fun _ g=>ac (Qy (m) (Qp (g.v rfl) (Qs 48 rfl) rfl)) rfl) ?_
 refine z6 ?_
 refine zz (fun _ g=>day rfl (g.k rfl) (Qy (aI fun g=>absurd ((ab (m)).symm.trans g) (by decide)) (Qp (g.v rfl) (Qs 49 rfl) rfl)) rfl) ?_
 refine z16 ?_
 exact y1
 refine w2 ?_
 apply dV (i3 105 _ _ _ (io 108 (ag [dI b.2.1,dB b.2.2.1]) :: i4 109 _ _ _ _ [io 113 (ag [dI b.2.2.2,dB false]),⟨some 114,PV.tup [],[bx 0 203 [.dat Qj c.1, .dat Qm c.2.1, .dat Qw c.2.2,dS d, .ref 1, .ref 41, .ref 42, .ref 43, .ref 2],ar 1 44 Qz t,ar 41 9 .str (cdP c f j (b.2.2.2,false)),ar 42 46 QG (h++[(k,(b.2.1,b.2.2.1).1,(b.2.1,b.2.2.1).2,ixP f (b.2.2.2,false))]),ar 43 207 Qv (psP f (b.2.2.2,false)),(2,some (.mp true Qv false .int (Yr (psP f (b.2.2.2,false))))),(0,none),(1,none),(11,none),(12,none),(10,none),(2,none)]⟩])) [0,1,3,3,15,15,63,63,15,0]
 refine z3 ?_
 refine zz (fun _ g=>ac (dK (Zm b) Xp) rfl) ?_
 refine z4 ?_
 refine zz (fun _ g=>ac (Qi Wi ⟨_,_,rfl,(g.w rfl),⟨_,_,rfl,(g.w rfl),rfl⟩⟩ (aq.1 rfl) rfl rfl) rfl) ?_
 refine zz (fun _ g=>ac (dP 38 [(3,11),(4,12),(5,10)] (Q4 c d t j h f k (b.2.1,b.2.2.1) (b.2.2.2,false) (by refine ⟨?_, ?_⟩ <;> (try dsimp only) <;> omega) G (by omega) (by omega)) YX) rfl) ?_
 exact zN
 refine w4 ?_
 refine Qc<|Zs ⟨i+1,(psP f (b.2.2.2,false)),(cdP c f j (b.2.2.2,false)),(h++[(k,(b.2.1,b.2.2.1).1,(b.2.1,b.2.2.1).2,ixP f (b.2.2.2,false))]),by omega,rfl,(by (rw[u,ZC o,XI (by unfold Yi; rw[Qq ‹_›]; simp[*])]; simp[VD, *]; done)),(by (exact ⟨bg Xk (by omega),bg Xi (by omega),by rw[ah]; simp; omega⟩)),rfl⟩ (by omega) ?_
 exact wo [(10,43),(11,41),(12,42)]
 apply dW (io 79 _ :: io 80 (lB true) :: i6 81 _ _ _ _ _ _ (io 87 (lB false) :: i9 88 _ _ _ _ _ _ _ _ _ (i5 97 _ _ _ _ _ (io 102 (lB (ZP d b)) :: i2 103 _ _ [])))) [0,0,0,0,0,0,0,0,0,0,0,0,0,0,0,0,0,0,0,262144,262144,262144,262144,0,0,0]
 refine z_ ?_
 refine zz (fun _ g=>ac (Qy (m) (Qp (g.v rfl) (Qs 48 rfl) rfl)) rfl) ?_
 refine z6 ?_
 refine zz (fun _ g=>day rfl (g.k rfl) (Qy (aI fun g=>absurd ((ab (m)).symm.trans g) (by decide)) (Qp (g.v rfl) (Qs 49 rfl) rfl)) rfl) ?_
 refine z14 ?_
 refine zz (fun _ g=>day rfl (g.k rfl) (dK (YJ b d (by omega) (by omega)) K1) rfl) ?_
 exact y2
 cases a4:(ZP d b)
 refine w2 ?_
 apply dV (i3 105 _ _ _ (io 108 (ag [dI b.2.1,dB b.2.2.1]) :: i4 109 _ _ _ _ [io 113 (ag [dI b.2.2.2,dB false]),⟨some 114,PV.tup [],[bx 0 203 [.dat Qj c.1, .dat Qm c.2.1, .dat Qw c.2.2,dS d, .ref 1, .ref 47, .ref 48, .ref 49, .ref 2],ar 1 44 Qz t,ar 47 9 .str (cdP c f j (b.2.2.2,false)),ar 48 46 QG (h++[(k,(b.2.1,b.2.2.1).1,(b.2.1,b.2.2.1).2,ixP f (b.2.2.2,false))]),ar 49 207 Qv (psP f (b.2.2.2,false)),(2,some (.mp true Qv false .int (Yr (psP f (b.2.2.2,false))))),(0,none),(1,none),(11,none),(12,none),(10,none),(2,none)]⟩])) [0,1,3,3,15,15,63,63,15,0]
 refine z3 ?_
 refine zz (fun _ g=>ac (dK (Zm b) Xp) rfl) ?_
 refine z4 ?_
 refine zz (fun _ g=>ac (Qi Wi ⟨_,_,rfl,(g.w rfl),⟨_,_,rfl,(g.w rfl),rfl⟩⟩ (aq.1 rfl) rfl rfl) rfl) ?_
 refine zz (fun _ g=>ac (dP 44 [(3,11),(4,12),(5,10)] (Q4 c d t j h f k (b.2.1,b.2.2.1) (b.2.2.2,false) (by refine ⟨?_, ?_⟩ <;> (try dsimp only) <;> omega) G (by omega) (by omega)) YX) rfl) ?_
 exact zN
 refine w4 ?_
 refine Qc<|Zs ⟨i+1,(psP f (b.2.2.2,false)),(cdP c f j (b.2.2.2,false)),(h++[(k,(b.2.1,b.2.2.1).1,(b.2.1,b.2.2.1).2,ixP f (b.2.2.2,false))]),by omega,rfl,(by (rw[u,ZC o,XI (by unfold Yi; rw[Qq ‹_›]; simp[*])]; simp[VD, *]; done)),(by (exact ⟨bg Xk (by omega),bg Xi (by omega),by rw[ah]; simp; omega⟩)),rfl⟩ (by omega) ?_
 exact wo [(10,49),(11,47),(12,48)]
 refine w6 ?_
 refine Qc<|Zs ⟨i+1,f,j,h,by omega,rfl,(by (rw[u,ZC o,Y0 (by unfold Yi; rw[Qq ‹_›]; simp[*])]; done)),(by omega),rfl⟩ (by omega) ?_
 exact wo []
 apply dW (io 79 _ :: io 80 (lB true) :: i9 81 _ _ _ _ _ _ _ _ _ (i9 90 _ _ _ _ _ _ _ _ _ (i6 99 _ _ _ _ _ _ []))) [0,0,0,0,0,0,0,0,0,0,0,0,0,0,0,0,0,0,0,262144,262144,262144,262144,0,0,0]
 refine z_ ?_
 refine zz (fun _ g=>ac (Qy (m) (Qp (g.v rfl) (Qs 48 rfl) rfl)) rfl) ?_
 refine z16 ?_
 exact y8
 refine w6 ?_
 refine Qc<|Zs ⟨i+1,f,j,h,by omega,rfl,(by (rw[u,ZC o,Y0 (by unfold Yi; rw[Qq ‹_›]; simp[*])]; done)),(by omega),rfl⟩ (by omega) ?_
 exact wo []
 refine w2 ?_
 refine lc (Qp (Qa rfl) (Qs 43 rfl) rfl) ?_
 refine w_ ?_
 cases B:(decide (c4=43))
 have J:=aa B
 refine w6 ?_
 refine lgy rfl rfl (Qp (Qa rfl) (Qs 45 rfl) rfl) ?_
 refine w_ ?_
 cases C:(decide (c4=45))
 have K:=aa C
 refine w12 ?_
 refine YL (O _ ⟨false,ps,cs,as_,(by unfold ZA; rw[Qq (p:=p.1) ‹_›]; simp[*]),(by (rw[Qb5 (by unfold ZA; rw[Qq (p:=p.1) ‹_›]; simp[*])]; done)),(by (exact ⟨by omega,by omega,by omega⟩)),rfl⟩) ?_
 exact wo [(7,5),(8,3),(9,4)]
 have K:=ab C
 refine w10 ?_
 cases D:(p.2)
 refine w2 ?_
 refine YL (O _ ⟨false,ps,cs,as_,(by unfold ZA; rw[Qq (p:=p.1) ‹_›]; simp[*]),(by (rw[Qb5 (by unfold ZA; rw[Qq (p:=p.1) ‹_›]; simp[*])]; done)),(by (exact ⟨by omega,by omega,by omega⟩)),rfl⟩) ?_
 exact wp [(7,5),(8,3),(9,4)] ⟨rfl,rfl,rfl,(congrArg (fun z_=>some (Ent.box 207 [dI p.1,dB z_])) ((D).symm)),rfl,rfl,rfl,trivial⟩
 refine w6 ?_
 refine lc (Qp (Qa rfl) (Qs 43 rfl) rfl)<|lc (Qi Va ⟨_,_,rfl,(Qr rfl),⟨_,_,rfl,(Qr rfl),rfl⟩⟩ (aq.1 rfl) rfl rfl) ?_
 refine w2 ?_
 refine alI 54 fun _=> ?_
 refine w3 ?_
 refine lc (Qi Wi ⟨_,_,rfl,(Qr rfl),⟨_,_,rfl,(Qr rfl),rfl⟩⟩ (aq.1 rfl) rfl rfl) ?_
 refine lc (dP 50 [] (Q4 c d t cs as_ ps k ((c.1.length:Int),decide (c4=43)) (p.1, !true) (by refine ⟨?_, ?_⟩ <;> (try dsimp only) <;> omega) G (by omega) (by omega)) YX) ?_
 refine w_ ?_
 refine YL (O _ ⟨true,(psP ps (p.1, !true)),(cdP c ps cs (p.1, !true)),(as_++[(k,((c.1.length:Int),decide (c4=43)).1,((c.1.length:Int),decide (c4=43)).2,ixP ps (p.1, !true))]),(by unfold ZA; rw[Qq (p:=p.1) ‹_›]; simp[*]),(by (rw[HK (by unfold ZA; rw[Qq (p:=p.1) ‹_›]; simp[*]),Qq ‹_›]; simp[VD, *]; done)),(by (exact ⟨Xk,Xi,by simp⟩)),rfl⟩) ?_
 exact wp [(7,55),(8,53),(9,54)] ⟨rfl,rfl,rfl,(congrArg (fun z_=>some (Ent.box 207 [dI p.1,dB z_])) ((D).symm)),rfl,rfl,rfl,trivial⟩
 have J:=ab B
 refine w5 ?_
 cases E:(p.2)
 refine w3 ?_
 refine Qn rfl rfl rfl ?_ rfl
 refine Qn rfl rfl rfl ?_ rfl
 refine w14 ?_
 refine lc (Qp (Qa rfl) (Qs 43 rfl) rfl)<|lc (Qi Va ⟨_,_,rfl,(Qr rfl),⟨_,_,rfl,(Qr rfl),rfl⟩⟩ (aq.1 rfl) rfl rfl) ?_
 refine w2 ?_
 refine alI 54 fun _=> ?_
 refine w3 ?_
 refine lc (Qi Wi ⟨_,_,rfl,(Qr rfl),⟨_,_,rfl,(Qr rfl),rfl⟩⟩ (aq.1 rfl) rfl rfl) ?_
 refine lc (dP 56 [] (Q4 c d t cs as_ ps k ((c.1.length:Int),decide (c4=43)) (p.1, !false) (by refine ⟨?_, ?_⟩ <;> (try dsimp only) <;> omega) G (by omega) (by omega)) YX) ?_
 refine w_ ?_
 refine YL (O _ ⟨true,(psP ps (p.1, !false)),(cdP c ps cs (p.1, !false)),(as_++[(k,((c.1.length:Int),decide (c4=43)).1,((c.1.length:Int),decide (c4=43)).2,ixP ps (p.1, !false))]),(by unfold ZA; rw[Qq (p:=p.1) ‹_›]; simp[*]),(by (rw[HK (by unfold ZA; rw[Qq (p:=p.1) ‹_›]; simp[*]),Qq ‹_›]; simp[VD, *]; done)),(by (exact ⟨Xk,Xi,by simp⟩)),rfl⟩) ?_
 exact wp [(7,61),(8,59),(9,60)] ⟨rfl,rfl,rfl,(congrArg (fun z_=>some (Ent.box 207 [dI p.1,dB z_])) ((E).symm)),rfl,rfl,rfl,trivial⟩
 refine w_ ?_
 refine lgy rfl rfl (Qp (Qa rfl) (Qs 45 rfl) rfl) ?_
 refine w_ ?_
 have F:(decide (c4=45))=false:=aI fun g=>absurd ((ab (B)).symm.trans g) (by decide)
 have T:=aa F
 try rw[F]
 refine w12 ?_
 refine YL (O _ ⟨false,ps,cs,as_,(by unfold ZA; rw[Qq (p:=p.1) ‹_›]; simp[*]),(by (rw[Qb5 (by unfold ZA; rw[Qq (p:=p.1) ‹_›]; simp[*])]; done)),(by (exact ⟨by omega,by omega,by omega⟩)),rfl⟩) ?_
 exact wp [(7,5),(8,3),(9,4)] ⟨rfl,rfl,rfl,(congrArg (fun z_=>some (Ent.box 207 [dI p.1,dB z_])) ((E).symm)),rfl,rfl,rfl,trivial⟩
end Go.Proofs.YtgpdhgadmjfokaaGreat
