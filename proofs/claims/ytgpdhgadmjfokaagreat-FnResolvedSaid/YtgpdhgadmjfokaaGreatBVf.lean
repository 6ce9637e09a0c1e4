/- Walks over abstract states: the arcs that leave a state of the new graph. -/
import Derived.Test.YtgpdhgadmjfokaaGreatBVe
set_option linter.unusedSimpArgs false
set_option linter.unusedVariables false
set_option linter.unusedSectionVars false
namespace Go.Proofs.YtgpdhgadmjfokaaGreat
open Go.RowKit
set_option maxRecDepth 100000
set_option maxHeartbeats 4000000
abbrev Ins:=List PSt×List ByteArray×List DAr
def ZV (s:ByteArray)(p:PSt):Bool:=(decide (bAt s p.1=43)&& !p.2)||(decide (bAt s p.1=45)&&p.2)
def YI (s:ByteArray)(p:PSt)(a:DAr):Bool:=(decide (bAt s a.2.2.2=48)&&p.2)||(decide (bAt s a.2.2.2=49)&& !p.2)||(ZV s p&&ZS s a)
def Kt (c:DSg)(st:Ins)(k:Int)(l:Zb)(p:PSt):Ins:=(psP st.1 p,cdP c st.1 st.2.1 p,st.2.2++[(k,l.1,l.2,ixP st.1 p)])
def Jf (c:DSg)(s:ByteArray)(k:Int)(p:PSt)(st:Ins)(a:DAr):Ins:=if YI s p a=true then st else Kt c st k (a.2.1,a.2.2.1) (a.2.2.2,p.2)
def Qc2 (c:DSg)(s:ByteArray)(st:Ins)(k:Int)(p:PSt):Ins:=if ZV s p=true then Kt c st k ((c.1.length:Int),decide (bAt s p.1=43)) (p.1, !p.2) else st
def WN (c:DSg)(s:ByteArray)(st:Ins)(k:Int):Ins:=match st.1[k.toNat]? with
 | none=>st
 | some p=>(Yf c.2.2 p.1).foldl (Jf c s k p) (Qc2 c s st k p)
section
variable {c:DSg}{s:ByteArray}{st:Ins}{k:Int}{p:PSt}{a:DAr}{i:Nat}{x:UInt8}{l:List DAr}
theorem QhL (h:st.1[k.toNat]? =some p):WN c s st k=(Yf c.2.2 p.1).foldl (Jf c s k p) (Qc2 c s st k p):=by unfold WN; rw[h]
theorem ZY {α β:Type _}{l:List α}{f:β→α→β}{b:β}{i:Nat}{x:α}(d:l[i]? =some x):(l.drop i).foldl f b=(l.drop (i+1)).foldl f (f b x):=by rw[Yd d,aT]
theorem VX {α β:Type _}{l:List α}{f:β→α→β}{b:β}{i:Nat}(h:l.length≤i):(l.drop i).foldl f b=b:=by rw[bJ h]; rfl
theorem XA (h:YI s p a=true):Jf c s k p st a=st:=if_pos h
theorem Wt (h:YI s p a=false):Jf c s k p st a=Kt c st k (a.2.1,a.2.2.1) (a.2.2.2,p.2):=if_neg (by rw[h]; decide)
theorem QbC (h:ZV s p=true):Qc2 c s st k p=Kt c st k ((c.1.length:Int),decide (bAt s p.1=43)) (p.1, !p.2):=if_pos h
theorem QfQ (h:ZV s p=false):Qc2 c s st k p=st:=if_neg (by rw[h]; decide)
end
theorem Zc (c:DSg)(f:ByteArray)(ss:List QD)(cs:List ByteArray)(as_:List DAr)(ps:List PSt)(q:Int)(l:KO)(p:KO)(r:0≤p.1∧p.1 < (c.2.1.length:Int))(n:∀x∈c.2.1,x.size≤1000)(o:ps.length≤1000000∧cs.length≤1000000)(z:as_.length≤100000000):FC Tryz.prog 309 [(false,[.ptr 0 0]),(false,[dI q]),(true,[dI l.1,dB l.2]),(true,[dI p.1,dB p.2])] [bx 0 203 [.dat Ql c.1, .dat Qm c.2.1, .dat Qu c.2.2,dS f, .ref 1, .ref 3, .ref 4, .ref 5, .ref 2],ar 1 44 Qz ss,ar 3 9 .str cs,ar 4 46 Qs as_,ar 5 207 Qy ps,(2,some (.mp true Qy false .int (YT ps)))] 3 (Is (PV.tup []) [bx 0 203 [.dat Ql c.1, .dat Qm c.2.1, .dat Qu c.2.2,dS f, .ref 1, .ref 3, .ref 4, .ref 5, .ref 2],ar 1 44 Qz ss,ar 3 9 .str (cdP c ps cs p),ar 4 46 Qs (as_++[(q,l.1,l.2,ixP ps p)]),ar 5 207 Qy (psP ps p),(2,some (.mp true Qy false .int (YT (psP ps p))))]):=by
 refine Qt Tryz.func309 rfl rfl Tryz.ntmps309 fun u m t g y j h=> ?_
 refine acI 1 fun _=> ?_
 refine acG 2 0 fun _=> ?_
 refine acG 3 0 fun _=> ?_
 refine w_ ?_
 refine xbx 6 ?_
 refine xbx 7 ?_
 refine w_ ?_
 apply dV (i2 8 _ _ (io 10 (lP 0 0) :: io 11 (lP 0 4) :: io 12 (lP 0 6) :: io 13 (lR 4) :: i7 14 _ _ _ _ _ _ _ (⟨some 21,lI (ixP ps p),[bx 0 203 [.dat Ql c.1, .dat Qm c.2.1, .dat Qu c.2.2,dS f, .ref 1, .ref 12, .ref 4, .ref 13, .ref 2],ar 1 44 Qz ss,ar 12 9 .str (cdP c ps cs p),ar 4 46 Qs as_,ar 13 207 Qy (psP ps p),(2,some (.mp true Qy false .int (YT (psP ps p)))),(0,none),(1,none),(3,none),(4,none),(5,none),(2,none)]⟩ :: io 22 (ag [dI q,dI l.1,dB l.2,dI (ixP ps p)]) :: ⟨some 23,lR 14,[ar 14 46 Qs ([(q,l.1,l.2,ixP ps p)])]⟩ :: ⟨some 24,lR 15,[ar 15 46 Qs (as_++([(q,l.1,l.2,ixP ps p)])),(4,none),(14,none)]⟩ :: i3 25 _ _ _ [⟨none,lf (.val undef),[bx 0 203 [.dat Ql c.1, .dat Qm c.2.1, .dat Qu c.2.2,dS f, .ref 1, .ref 12, .ref 15, .ref 13, .ref 2]]⟩]))) [0,1,1,1,1,1,63,127,127,511,511,2047,4095,2047,63,63,1,0,0,0,0]
 refine z2 ?_
 refine zz (fun _ b=>by rcases b.en2 0 13 rfl with d | d <;> exact ac (Wl (b.v rfl) (by rw[d]; rfl) rfl) rfl)<|zz (fun _ b=>by rcases b.en2 0 13 rfl with d | d <;> exact ac (ZL (b.v rfl) Qpd (by rw[d]; rfl) rfl) rfl)<|zz (fun _ b=>by rcases b.en2 0 13 rfl with d | d <;> exact ac (ZL (b.v rfl) JE (by rw[d]; rfl) rfl) rfl)<|zz (fun _ b=>by rcases b.en2 0 13 rfl with d | d <;> exact ac (Xk (b.v rfl) d UL rfl rfl) rfl) ?_
 refine z7 ?_
 refine zz (fun _ b=>ac (dP 8 [(2,4),(3,2),(4,3)] (YR c f ss cs as_ ps p r n o) Qat) rfl) ?_
 refine zz (fun _ b=>ac (Qg QcF ⟨_,_,rfl,(b.w rfl),⟨_,_,rfl,(b.w rfl),⟨_,_,rfl,(b.w rfl),⟨_,_,rfl,(b.w rfl),rfl⟩⟩⟩⟩ (au.1 rfl) rfl rfl) rfl) ?_
 refine zz (fun _ b=>ac (dBs 14 (e:=Qs) Zg (hab:=by exact ⟨_,_,_,_,rfl,⟨[dI q],[dI l.1,dB l.2,dI (ixP ps p)],_,_,_,_,rfl,rfl,⟨rfl,rfl⟩,⟨[dI l.1],[dB l.2,dI (ixP ps p)],_,_,_,_,rfl,rfl,⟨rfl,rfl⟩,⟨[dB l.2],[dI (ixP ps p)],_,_,_,_,rfl,rfl,⟨rfl,rfl⟩,⟨rfl,rfl⟩,rfl⟩,rfl⟩,rfl⟩,⟨rfl,rfl⟩,rfl⟩)) rfl) ?_
 refine zz (fun _ b=>ac (dA 15 UM) rfl) ?_
 refine z3 ?_
 refine zz (fun _ b=>ac (QO (b.v rfl) (b.en 0 rfl) (b.w rfl) (by simp only[QQ,Xz,aY,br]; rw[(b.en 15 rfl)]; rfl) UL rfl) rfl) ?_
 exact zN
 refine (?_:fin _ _ _ _ .normal _)
 exact fi_ [(3,12),(4,15),(5,13)] m ⟨rfl,rfl,rfl,(Qe (by rfl)),rfl,rfl,trivial⟩
theorem Kq (c:DSg)(d:ByteArray)(ss:List QD)(cs:List ByteArray)(as_:List DAr)(ps:List PSt)(k:Int)(hk:0≤k∧k < (ps.length:Int))(M:SignsOk c d)(T:∀p∈ps,0≤p.1∧p.1 < (c.2.1.length:Int))(hl:ps.length≤10000∧cs.length≤10000∧as_.length≤90000000):FC Tryz.prog 197 [(false,[.ptr 0 0]),(false,[dI k])] [bx 0 203 [.dat Ql c.1, .dat Qm c.2.1, .dat Qu c.2.2,dS d, .ref 1, .ref 3, .ref 4, .ref 5, .ref 2],ar 1 44 Qz ss,ar 3 9 .str cs,ar 4 46 Qs as_,ar 5 207 Qy ps,(2,some (.mp true Qy false .int (YT ps)))] 3 (Is (PV.tup []) [bx 0 203 [.dat Ql c.1, .dat Qm c.2.1, .dat Qu c.2.2,dS d, .ref 1, .ref 3, .ref 4, .ref 5, .ref 2],ar 1 44 Qz ss,ar 3 9 .str ((WN c d (ps,cs,as_) k).2.1),ar 4 46 Qs ((WN c d (ps,cs,as_) k).2.2),ar 5 207 Qy ((WN c d (ps,cs,as_) k).1),(2,some (.mp true Qy false .int (YT ((WN c d (ps,cs,as_) k).1))))]):=by
 have b8:=M.2.1
 have b5:=M.2.2.some_
 have b0:=M.2.2.few
 have b7:=Kc M.2.2.sigs
 have F:∀x∈c.2.1,x.size≤1000:=fun x hx=>by have:=(M.2.2.codes x hx).2; omega
 refine Qt Tryz.func197 rfl rfl Tryz.ntmps197 fun O_ hO b9 a5 X_ a7 a6=> ?_
 refine acI 1 fun _=> ?_
 obtain ⟨p,L⟩:=gx ps ((k).toNat)
 have b6:=T _ (ah L)
 have V:=L
 have a9:=Qa7 (l:=c.2.2) (q:=p.1)
 apply dW (i5 11 _ _ _ _ _ (io 16 (lf (.ept 5 2 ((k).toNat) 0)) :: io 17 (ag [dI p.1,dB p.2]) :: i6 18 _ _ _ _ _ _ [⟨some 4,lP 6 0,[bx 6 207 [dI 0,dB false]]⟩,⟨none,lf (.val undef),[bx 6 207 [dI p.1,dB p.2]]⟩,io 5 _])) [0,0,0,0,15,0,0,127,127,127,127,127,127,8191,8064,0]
 refine z5 ?_
 refine zz (fun _ g=>ac (QE (e:=Qy) (g.v rfl) (g.en 5 rfl) (g.v rfl) QtX QoF rfl (by omega) (by first | omega | (simp only[az]; omega))) rfl)<|zz (fun _ g=>ac (Vn (e:=Qy) (g.v rfl) (g.n 5 rfl) L rfl QoF rfl rfl) rfl) ?_
 refine z6 ?_
 refine zz (fun _ g=>ac (Xq 6 Qy QdR rfl rfl (g.fr 6 rfl) (nlr rfl)) rfl) ?_
 exact y2
 obtain ⟨c4,a8⟩:=gs d ((p.1).toNat)
 apply dW (i7 24 _ _ _ _ _ _ _ [io 6 _]) [0,0,0,0,15,15,0,0]
 exact y8
 refine QfN (fun R=>∃(w:Bool) (u:List (Int×Bool)) (z:List ByteArray) (y:List (Int×Int×Bool×Int)),(ZV d p=w)∧((u,z,y)=Qc2 c d (ps,cs,as_) k p)∧(u.length≤ps.length+1∧z.length≤cs.length+1∧y.length≤as_.length+1)∧R=⟨[(0,lP 0 0),(1,lI k),(4,lP 6 0),(7,lB w)],[bx 0 203 [.dat Ql c.1, .dat Qm c.2.1, .dat Qu c.2.2,dS d, .ref 1, .ref 8, .ref 9, .ref 7, .ref 2],ar 1 44 Qz ss,(2,some (.mp true Qy false .int (YT u))),bx 6 207 [dI p.1,dB p.2],ar 7 207 Qy u,ar 8 9 .str z,ar 9 46 Qs y]⟩) ?_ fun N=> ?_
 rintro R ⟨w,u,z,y,hw,hP,b2,rfl⟩
 apply dW (i6 60 _ _ _ _ _ _ (io 66 (lf (.dat Qu (Yf c.2.2 p.1))) :: i2 67 _ _ [])) [0,0,0,0,15,15,0,0,255]
 refine z6 ?_
 refine zz (fun _ g=>ac (dK (QcA c p.1 (by omega)).frozen Qmz) rfl) ?_
 exact y2
 refine w_ ?_
 refine QL (fun m_ R=>∃(i:Nat) (f:List (Int×Bool)) (j:List ByteArray) (h:List (Int×Int×Bool×Int)),i≤(Yf c.2.2 p.1).length∧m_=(Yf c.2.2 p.1).length - i∧(WN c d (ps,cs,as_) k=((Yf c.2.2 p.1).drop i).foldl (Jf c d k p) (f,j,h))∧(f.length≤ps.length+1+i∧j.length≤cs.length+1+i∧h.length≤as_.length+1+i)∧R=⟨[(0,lP 0 0),(1,lI k),(4,lP 6 0),(7,lB w),(66,lf (.dat Qu (Yf c.2.2 p.1))),(67,lI ((Yf c.2.2 p.1).length:Int)),(68,lI (i:Int))],[bx 0 203 [.dat Ql c.1, .dat Qm c.2.1, .dat Qu c.2.2,dS d, .ref 1, .ref 11, .ref 12, .ref 10, .ref 2],ar 1 44 Qz ss,(2,some (.mp true Qy false .int (YT f))),bx 6 207 [dI p.1,dB p.2],ar 10 207 Qy f,ar 11 9 .str j,ar 12 46 Qs h]⟩) ⟨0,u,z,y,aS _,rfl,(by rw[hP]; exact QhL V),(by omega),rfl⟩ ?_ ?_
 exact wo [(10,7),(11,8),(12,9)]
 rintro m_ R ⟨i,f,j,h,b1,b4,t,b3,rfl⟩
 refine w4 ?_
 cases P:(decide ((i:Int) < ((Yf c.2.2 p.1).length:Int)))
 have Q:=aa P
 refine w2 ?_
 refine (?_:fin _ _ _ _ .normal _)
 exact fi_ [(3,11),(4,12),(5,10)] hO ⟨rfl,rfl,(Qe (by (rw[t,VX (by omega)]; done))),(Qe (by (rw[t,VX (by omega)]; done))),(Qe (by (rw[t,VX (by omega)]; done))),(Qpz (by (rw[t,VX (by omega)]; done))),trivial⟩
 have Q:=ab P
 refine w5 ?_
 obtain ⟨b,o⟩:=gx (Yf c.2.2 p.1) i
 have K:=Jq.1 (ah o)
 have U:=M.at_ K.1
 refine w2 ?_
 refine lc (xal 13 Qs Zg) ?_
 refine w3 ?_
 obtain ⟨O,a4⟩:=gs d ((b.2.2.2).toNat)
 apply dW (i7 72 _ _ _ _ _ _ _ [io 10 _]) [0,0,0,0,15,15,0,0]
 exact y8
 cases m:(decide (O=48))
 have G:=aa m
 cases r:(decide (O=49))
 have H:=aa r
 cases W:(w)
 apply dW (io 79 _ :: io 80 (lB false) :: i6 81 _ _ _ _ _ _ (io 87 (lB false) :: i9 88 _ _ _ _ _ _ _ _ _ (i8 97 _ _ _ _ _ _ _ _ []))) [0,0,0,0,0,0,0,0,0,0,0,0,0,0,0,0,0,0,0,262144,262144,262144,262144,0,0,0]
 refine z_ ?_
 refine zz (fun _ g=>ac (QC (m) (Qr (g.v rfl) (Qw 48 rfl) rfl)) rfl) ?_
 refine z6 ?_
 refine zz (fun _ g=>day rfl (g.k rfl) (QC (r) (Qr (g.v rfl) (Qw 49 rfl) rfl)) rfl) ?_
 refine z16 ?_
 exact y1
 refine w2 ?_
 apply dV (i3 105 _ _ _ (io 108 (ag [dI b.2.1,dB b.2.2.1]) :: i4 109 _ _ _ _ [io 113 (ag [dI b.2.2.2,dB p.2]),⟨some 114,PV.tup [],[bx 0 203 [.dat Ql c.1, .dat Qm c.2.1, .dat Qu c.2.2,dS d, .ref 1, .ref 17, .ref 18, .ref 19, .ref 2],ar 1 44 Qz ss,ar 17 9 .str (cdP c f j (b.2.2.2,p.2)),ar 18 46 Qs (h++[(k,(b.2.1,b.2.2.1).1,(b.2.1,b.2.2.1).2,ixP f (b.2.2.2,p.2))]),ar 19 207 Qy (psP f (b.2.2.2,p.2)),(2,some (.mp true Qy false .int (YT (psP f (b.2.2.2,p.2))))),(0,none),(1,none),(11,none),(12,none),(10,none),(2,none)]⟩])) [0,1,3,3,15,15,63,63,15,0]
 refine z3 ?_
 refine zz (fun _ g=>ac (dK (Q8 b) YH) rfl) ?_
 refine z4 ?_
 refine zz (fun _ g=>ac (Qg W7 ⟨_,_,rfl,(g.w rfl),⟨_,_,rfl,(g.w rfl),rfl⟩⟩ (au.1 rfl) rfl rfl) rfl) ?_
 refine zz (fun _ g=>ac (dP 14 [(3,11),(4,12),(5,10)] (Zc c d ss j h f k (b.2.1,b.2.2.1) (b.2.2.2,p.2) (by refine ⟨?_, ?_⟩ <;> (try dsimp only) <;> omega) F (by omega) (by omega)) Xm) rfl) ?_
 exact zN
 refine w4 ?_
 refine Qb<|Q2 ⟨i+1,(psP f (b.2.2.2,p.2)),(cdP c f j (b.2.2.2,p.2)),(h++[(k,(b.2.1,b.2.2.1).1,(b.2.1,b.2.2.1).2,ixP f (b.2.2.2,p.2))]),by omega,rfl,(by (rw[t,ZY o,Wt (by unfold YI; rw[Qv ‹_›]; simp[*])]; simp[Kt, *]; done)),(by (exact ⟨bl XV (by omega),bl XU (by omega),by rw[ae]; simp; omega⟩)),rfl⟩ (by omega) ?_
 exact wo [(10,19),(11,17),(12,18)]
 apply dW (io 79 _ :: io 80 (lB false) :: i6 81 _ _ _ _ _ _ (io 87 (lB false) :: i9 88 _ _ _ _ _ _ _ _ _ (i5 97 _ _ _ _ _ (io 102 (lB (ZS d b)) :: i2 103 _ _ [])))) [0,0,0,0,0,0,0,0,0,0,0,0,0,0,0,0,0,0,0,262144,262144,262144,262144,0,0,0]
 refine z_ ?_
 refine zz (fun _ g=>ac (QC (m) (Qr (g.v rfl) (Qw 48 rfl) rfl)) rfl) ?_
 refine z6 ?_
 refine zz (fun _ g=>day rfl (g.k rfl) (QC (r) (Qr (g.v rfl) (Qw 49 rfl) rfl)) rfl) ?_
 refine z14 ?_
 refine zz (fun _ g=>day rfl (g.k rfl) (dK (Xe b d (by omega) (by omega)) Hg) rfl) ?_
 exact y2
 cases X:(ZS d b)
 refine w2 ?_
 apply dV (i3 105 _ _ _ (io 108 (ag [dI b.2.1,dB b.2.2.1]) :: i4 109 _ _ _ _ [io 113 (ag [dI b.2.2.2,dB p.2]),⟨some 114,PV.tup [],[bx 0 203 [.dat Ql c.1, .dat Qm c.2.1, .dat Qu c.2.2,dS d, .ref 1, .ref 23, .ref 24, .ref 25, .ref 2],ar 1 44 Qz ss,ar 23 9 .str (cdP c f j (b.2.2.2,p.2)),ar 24 46 Qs (h++[(k,(b.2.1,b.2.2.1).1,(b.2.1,b.2.2.1).2,ixP f (b.2.2.2,p.2))]),ar 25 207 Qy (psP f (b.2.2.2,p.2)),(2,some (.mp true Qy false .int (YT (psP f (b.2.2.2,p.2))))),(0,none),(1,none),(11,none),(12,none),(10,none),(2,none)]⟩])) [0,1,3,3,15,15,63,63,15,0]
 refine z3 ?_
 refine zz (fun _ g=>ac (dK (Q8 b) YH) rfl) ?_
 refine z4 ?_
 refine zz (fun _ g=>ac (Qg W7 ⟨_,_,rfl,(g.w rfl),⟨_,_,rfl,(g.w rfl),rfl⟩⟩ (au.1 rfl) rfl rfl) rfl) ?_
 refine zz (fun _ g=>ac (dP 20 [(3,11),(4,12),(5,10)] (Zc c d ss j h f k (b.2.1,b.2.2.1) (b.2.2.2,p.2) (by refine ⟨?_, ?_⟩ <;> (try dsimp only) <;> omega) F (by omega) (by omega)) Xm) rfl) ?_
 exact zN
 refine w4 ?_
 refine Qb<|Q2 ⟨i+1,(psP f (b.2.2.2,p.2)),(cdP c f j (b.2.2.2,p.2)),(h++[(k,(b.2.1,b.2.2.1).1,(b.2.1,b.2.2.1).2,ixP f (b.2.2.2,p.2))]),by omega,rfl,(by (rw[t,ZY o,Wt (by unfold YI; rw[Qv ‹_›]; simp[*])]; simp[Kt, *]; done)),(by (exact ⟨bl XV (by omega),bl XU (by omega),by rw[ae]; simp; omega⟩)),rfl⟩ (by omega) ?_
 exact wo [(10,25),(11,23),(12,24)]
 refine w6 ?_
 refine Qb<|Q2 ⟨i+1,f,j,h,by omega,rfl,(by (rw[t,ZY o,XA (by unfold YI; rw[Qv ‹_›]; simp[*])]; done)),(by omega),rfl⟩ (by omega) ?_
 exact wo []
 have H:=ab r
 cases Y:(p.2)
 apply dW (io 79 _ :: io 80 (lB false) :: i6 81 _ _ _ _ _ _ (io 87 (lB true) :: i9 88 _ _ _ _ _ _ _ _ _ (i8 97 _ _ _ _ _ _ _ _ []))) [0,0,0,0,0,0,0,0,0,0,0,0,0,0,0,0,0,0,0,262144,262144,262144,262144,0,0,0]
 refine z_ ?_
 refine zz (fun _ g=>ac (QC (m) (Qr (g.v rfl) (Qw 48 rfl) rfl)) rfl) ?_
 refine z6 ?_
 refine zz (fun _ g=>day rfl (g.k rfl) (QC (r) (Qr (g.v rfl) (Qw 49 rfl) rfl)) rfl) ?_
 refine z16 ?_
 exact y1
 refine w6 ?_
 refine Qb<|Q2 ⟨i+1,f,j,h,by omega,rfl,(by (rw[t,ZY o,XA (by unfold YI; rw[Qv ‹_›]; simp[*])]; done)),(by omega),rfl⟩ (by omega) ?_
 exact wo []
 cases Z:(w)
 apply dW (io 79 _ :: io 80 (lB false) :: i6 81 _ _ _ _ _ _ (io 87 (lB true) :: i9 88 _ _ _ _ _ _ _ _ _ (i8 97 _ _ _ _ _ _ _ _ []))) [0,0,0,0,0,0,0,0,0,0,0,0,0,0,0,0,0,0,0,262144,262144,262144,262144,0,0,0]
 refine z_ ?_
 refine zz (fun _ g=>ac (QC (m) (Qr (g.v rfl) (Qw 48 rfl) rfl)) rfl) ?_
 refine z6 ?_
 refine zz (fun _ g=>day rfl (g.k rfl) (QC (r) (Qr (g.v rfl) (Qw 49 rfl) rfl)) rfl) ?_
 refine z16 ?_
 exact y1
 refine w2 ?_
 apply dV (i3 105 _ _ _ (io 108 (ag [dI b.2.1,dB b.2.2.1]) :: i4 109 _ _ _ _ [io 113 (ag [dI b.2.2.2,dB true]),⟨some 114,PV.tup [],[bx 0 203 [.dat Ql c.1, .dat Qm c.2.1, .dat Qu c.2.2,dS d, .ref 1, .ref 29, .ref 30, .ref 31, .ref 2],ar 1 44 Qz ss,ar 29 9 .str (cdP c f j (b.2.2.2,true)),ar 30 46 Qs (h++[(k,(b.2.1,b.2.2.1).1,(b.2.1,b.2.2.1).2,ixP f (b.2.2.2,true))]),ar 31 207 Qy (psP f (b.2.2.2,true)),(2,some (.mp true Qy false .int (YT (psP f (b.2.2.2,true))))),(0,none),(1,none),(11,none),(12,none),(10,none),(2,none)]⟩])) [0,1,3,3,15,15,63,63,15,0]
 refine z3 ?_
 refine zz (fun _ g=>ac (dK (Q8 b) YH) rfl) ?_
 refine z4 ?_
 refine zz (fun _ g=>ac (Qg W7 ⟨_,_,rfl,(g.w rfl),⟨_,_,rfl,(g.w rfl),rfl⟩⟩ (au.1 rfl) rfl rfl) rfl) ?_
 refine zz (fun _ g=>ac (dP 26 [(3,11),(4,12),(5,10)] (Zc c d ss j h f k (b.2.1,b.2.2.1) (b.2.2.2,true) (by refine ⟨?_, ?_⟩ <;> (try dsimp only) <;> omega) F (by omega) (by omega)) Xm) rfl) ?_
 exact zN
 refine w4 ?_
 refine Qb<|Q2 ⟨i+1,(psP f (b.2.2.2,true)),(cdP c f j (b.2.2.2,true)),(h++[(k,(b.2.1,b.2.2.1).1,(b.2.1,b.2.2.1).2,ixP f (b.2.2.2,true))]),by omega,rfl,(by (rw[t,ZY o,Wt (by unfold YI; rw[Qv ‹_›]; simp[*])]; simp[Kt, *]; done)),(by (exact ⟨bl XV (by omega),bl XU (by omega),by rw[ae]; simp; omega⟩)),rfl⟩ (by omega) ?_
 exact wo [(10,31),(11,29),(12,30)]
 apply dW (io 79 _ :: io 80 (lB false) :: i6 81 _ _ _ _ _ _ (io 87 (lB true) :: i9 88 _ _ _ _ _ _ _ _ _ (i5 97 _ _ _ _ _ (io 102 (lB (ZS d b)) :: i2 103 _ _ [])))) [0,0,0,0,0,0,0,0,0,0,0,0,0,0,0,0,0,0,0,262144,262144,262144,262144,0,0,0]
 refine z_ ?_
 refine zz (fun _ g=>ac (QC (m) (Qr (g.v rfl) (Qw 48 rfl) rfl)) rfl) ?_
 refine z6 ?_
 refine zz (fun _ g=>day rfl (g.k rfl) (QC (r) (Qr (g.v rfl) (Qw 49 rfl) rfl)) rfl) ?_
 refine z14 ?_
 refine zz (fun _ g=>day rfl (g.k rfl) (dK (Xe b d (by omega) (by omega)) Hg) rfl) ?_
 exact y2
 cases a0:(ZS d b)
 refine w2 ?_
 apply dV (i3 105 _ _ _ (io 108 (ag [dI b.2.1,dB b.2.2.1]) :: i4 109 _ _ _ _ [io 113 (ag [dI b.2.2.2,dB true]),⟨some 114,PV.tup [],[bx 0 203 [.dat Ql c.1, .dat Qm c.2.1, .dat Qu c.2.2,dS d, .ref 1, .ref 35, .ref 36, .ref 37, .ref 2],ar 1 44 Qz ss,ar 35 9 .str (cdP c f j (b.2.2.2,true)),ar 36 46 Qs (h++[(k,(b.2.1,b.2.2.1).1,(b.2.1,b.2.2.1).2,ixP f (b.2.2.2,true))]),ar 37 207 Qy (psP f (b.2.2.2,true)),(2,some (.mp true Qy false .int (YT (psP f (b.2.2.2,true))))),(0,none),(1,none),(11,none),(12,none),(10,none),(2,none)]⟩])) [0,1,3,3,15,15,63,63,15,0]
 refine z3 ?_
 refine zz (fun _ g=>ac (dK (Q8 b) YH) rfl) ?_
 refine z4 ?_
 refine zz (fun _ g=>ac (Qg W7 ⟨_,_,rfl,(g.w rfl),⟨_,_,rfl,(g.w rfl),rfl⟩⟩ (au.1 rfl) rfl rfl) rfl) ?_
 refine zz (fun _ g=>ac (dP 32 [(3,11),(4,12),(5,10)] (Zc c d ss j h f k (b.2.1,b.2.2.1) (b.2.2.2,true) (by refine ⟨?_, ?_⟩ <;> (try dsimp only) <;> omega) F (by omega) (by omega)) Xm) rfl) ?_
 exact zN
 refine w4 ?_
 refine Qb<|Q2 ⟨i+1,(psP f (b.2.2.2,true)),(cdP c f j (b.2.2.2,true)),(h++[(k,(b.2.1,b.2.2.1).1,(b.2.1,b.2.2.1).2,ixP f (b.2.2.2,true))]),by omega,rfl,(by (rw[t,ZY o,Wt (by unfold YI; rw[Qv ‹_›]; simp[*])]; simp[Kt, *]; done)),(by (exact ⟨bl XV (by omega),bl XU (by omega),by rw[ae]; simp; omega⟩)),rfl⟩ (by omega) ?_
 exact wo [(10,37),(11,35),(12,36)]
 refine w6 ?_
 refine Qb<|Q2 ⟨i+1,f,j,h,by omega,rfl,(by (rw[t,ZY o,XA (by unfold YI; rw[Qv ‹_›]; simp[*])]; done)),(by omega),rfl⟩ (by omega) ?_
 exact wo []
 have G:=ab m
 cases a1:(p.2)
 cases a2:(w)
 apply dW (io 79 _ :: io 80 (lB true) :: i6 81 _ _ _ _ _ _ (io 87 (lB false) :: i9 88 _ _ _ _ _ _ _ _ _ (i8 97 _ _ _ _ _ _ _ _ []))) [0,0,0,0,0,0,0,0,0,0,0,0,0,0,0,0,0,0,0,262144,262144,262144,262144,0,0,0]
 refine z_ ?_
 refine zz (fun _ g=>ac (QC (m) (Qr (g.v rfl) (Qw 48 rfl) rfl)) rfl) ?_
 refine z6 ?_
 refine zz (fun _ g=>day rfl (g.k rfl) (QC (aH fun g=>absurd ((ab (m)).symm.trans g) (by decide)) (Qr (g.v rfl) (Qw 49 rfl) rfl)) rfl) ?_
 refine z16 ?_
 exact y1
 refine w2 ?_
 apply dV (i3 105 _ _ _ (io 108 (ag [dI b.2.1,dB b.2.2.1]) :: i4 109 _ _ _ _ [io 113 (ag [dI b.2.2.2,dB false]),⟨some 114,PV.tup [],[bx 0 203 [.dat Ql c.1, .dat Qm c.2.1, .dat Qu c.2.2,dS d, .ref 1, .ref 41, .ref 42, .ref 43, .ref 2],ar 1 44 Qz ss,ar 41 9 .str (cdP c f j (b.2.2.2,false)),ar 42 46 Qs (h++[(k,(b.2.1,b.2.2.1).1,(b.2.1,b.2.2.1).2,ixP f (b.2.2.2,false))]),ar 43 207 Qy (psP f (b.2.2.2,false)),(2,some (.mp true Qy false .int (YT (psP f (b.2.2.2,false))))),(0,none),(1,none),(11,none),(12,none),(10,none),(2,none)]⟩])) [0,1,3,3,15,15,63,63,15,0]
 refine z3 ?_
 refine zz (fun _ g=>ac (dK (Q8 b) YH) rfl) ?_
 refine z4 ?_
 refine zz (fun _ g=>ac (Qg W7 ⟨_,_,rfl,(g.w rfl),⟨_,_,rfl,(g.w rfl),rfl⟩⟩ (au.1 rfl) rfl rfl) rfl) ?_
 refine zz (fun _ g=>ac (dP 38 [(3,11),(4,12),(5,10)] (Zc c d ss j h f k (b.2.1,b.2.2.1) (b.2.2.2,false) (by refine ⟨?_, ?_⟩ <;> (try dsimp only) <;> omega) F (by omega) (by omega)) Xm) rfl) ?_
 exact zN
 refine w4 ?_
 refine Qb<|Q2 ⟨i+1,(psP f (b.2.2.2,false)),(cdP c f j (b.2.2.2,false)),(h++[(k,(b.2.1,b.2.2.1).1,(b.2.1,b.2.2.1).2,ixP f (b.2.2.2,false))]),by omega,rfl,(by (rw[t,ZY o,Wt (by unfold YI; rw[Qv ‹_›]; simp[*])]; simp[Kt, *]; done)),(by (exact ⟨bl XV (by omega),bl XU (by omega),by rw[ae]; simp; omega⟩)),rfl⟩ (by omega) ?_
 exact wo [(10,43),(11,41),(12,42)]
 apply dW (io 79 _ :: io 80 (lB true) :: i6 81 _ _ _ _ _ _ (io 87 (lB false) :: i9 88 _ _ _ _ _ _ _ _ _ (i5 97 _ _ _ _ _ (io 102 (lB (ZS d b)) :: i2 103 _ _ [])))) [0,0,0,0,0,0,0,0,0,0,0,0,0,0,0,0,0,0,0,262144,262144,262144,262144,0,0,0]
 refine z_ ?_
 refine zz (fun _ g=>ac (QC (m) (Qr (g.v rfl) (Qw 48 rfl) rfl)) rfl) ?_
 refine z6 ?_
 refine zz (fun _ g=>day rfl (g.k rfl) (QC (aH fun g=>absurd ((ab (m)).symm.trans g) (by decide)) (Qr (g.v rfl) (Qw 49 rfl) rfl)) rfl) ?_
 refine z14 ?_
 refine zz (fun _ g=>day rfl (g.k rfl) (dK (Xe b d (by omega) (by omega)) Hg) rfl) ?_
 exact y2
 cases a3:(ZS d b)
 refine w2 ?_
 apply dV (i3 105 _ _ _ (io 108 (ag [dI b.2.1,dB b.2.2.1]) :: i4 109 _ _ _ _ [io 113 (ag [dI b.2.2.2,dB false]),⟨some 114,PV.tup [],[bx 0 203 [.dat Ql c.1, .dat Qm c.2.1, .dat Qu c.2.2,dS d, .ref 1, .ref 47, .ref 48, .ref 49, .ref 2],ar 1 44 Qz ss,ar 47 9 .str (cdP c f j (b.2.2.2,false)),ar 48 46 Qs (h++[(k,(b.2.1,b.2.2.1).1,(b.2.1,b.2.2.1).2,ixP f (b.2.2.2,false))]),ar 49 207 Qy (psP f (b.2.2.2,false)),(2,some (.mp true Qy false .int (YT (psP f (b.2.2.2,false))))),(0,none),(1,none),(11,none),(12,none),(10,none),(2,none)]⟩])) [0,1,3,3,15,15,63,63,15,0]
 refine z3 ?_
 refine zz (fun _ g=>ac (dK (Q8 b) YH) rfl) ?_
 refine z4 ?_
 refine zz (fun _ g=>ac (Qg W7 ⟨_,_,rfl,(g.w rfl),⟨_,_,rfl,(g.w rfl),rfl⟩⟩ (au.1 rfl) rfl rfl) rfl) ?_
 refine zz (fun _ g=>ac (dP 44 [(3,11),(4,12),(5,10)] (Zc c d ss j h f k (b.2.1,b.2.2.1) (b.2.2.2,false) (by refine ⟨?_, ?_⟩ <;> (try dsimp only) <;> omega) F (by omega) (by omega)) Xm) rfl) ?_
 exact zN
 refine w4 ?_
 refine Qb<|Q2 ⟨i+1,(psP f (b.2.2.2,false)),(cdP c f j (b.2.2.2,false)),(h++[(k,(b.2.1,b.2.2.1).1,(b.2.1,b.2.2.1).2,ixP f (b.2.2.2,false))]),by omega,rfl,(by (rw[t,ZY o,Wt (by unfold YI; rw[Qv ‹_›]; simp[*])]; simp[Kt, *]; done)),(by (exact ⟨bl XV (by omega),bl XU (by omega),by rw[ae]; simp; omega⟩)),rfl⟩ (by omega) ?_
 exact wo [(10,49),(11,47),(12,48)]
 refine w6 ?_
 refine Qb<|Q2 ⟨i+1,f,j,h,by omega,rfl,(by (rw[t,ZY o,XA (by unfold YI; rw[Qv ‹_›]; simp[*])]; done)),(by omega),rfl⟩ (by omega) ?_
 exact wo []
 apply dW (io 79 _ :: io 80 (lB true) :: i9 81 _ _ _ _ _ _ _ _ _ (i9 90 _ _ _ _ _ _ _ _ _ (i6 99 _ _ _ _ _ _ []))) [0,0,0,0,0,0,0,0,0,0,0,0,0,0,0,0,0,0,0,262144,262144,262144,262144,0,0,0]
 refine z_ ?_
 refine zz (fun _ g=>ac (QC (m) (Qr (g.v rfl) (Qw 48 rfl) rfl)) rfl) ?_
 refine z16 ?_
 exact y8
 refine w6 ?_
 refine Qb<|Q2 ⟨i+1,f,j,h,by omega,rfl,(by (rw[t,ZY o,XA (by unfold YI; rw[Qv ‹_›]; simp[*])]; done)),(by omega),rfl⟩ (by omega) ?_
 exact wo []
 refine w2 ?_
 refine lc (Qr (Qa rfl) (Qw 43 rfl) rfl) ?_
 refine w_ ?_
 cases A:(decide (c4=43))
 have I:=aa A
 refine w6 ?_
 refine lgy rfl rfl (Qr (Qa rfl) (Qw 45 rfl) rfl) ?_
 refine w_ ?_
 cases B:(decide (c4=45))
 have J:=aa B
 refine w12 ?_
 refine XP (N _ ⟨false,ps,cs,as_,(by unfold ZV; rw[Qv (p:=p.1) ‹_›]; simp[*]),(by (rw[QfQ (by unfold ZV; rw[Qv (p:=p.1) ‹_›]; simp[*])]; done)),(by (exact ⟨by omega,by omega,by omega⟩)),rfl⟩) ?_
 exact wo [(7,5),(8,3),(9,4)]
 have J:=ab B
 refine w10 ?_
 cases C:(p.2)
 refine w2 ?_
 refine XP (N _ ⟨false,ps,cs,as_,(by unfold ZV; rw[Qv (p:=p.1) ‹_›]; simp[*]),(by (rw[QfQ (by unfold ZV; rw[Qv (p:=p.1) ‹_›]; simp[*])]; done)),(by (exact ⟨by omega,by omega,by omega⟩)),rfl⟩) ?_
 exact wp [(7,5),(8,3),(9,4)] ⟨rfl,rfl,rfl,(congrArg (fun z_=>some (Ent.box 207 [dI p.1,dB z_])) ((C).symm)),rfl,rfl,rfl,trivial⟩
 refine w6 ?_
 refine lc (Qr (Qa rfl) (Qw 43 rfl) rfl)<|lc (Qg Ws ⟨_,_,rfl,(Qo rfl),⟨_,_,rfl,(Qo rfl),rfl⟩⟩ (au.1 rfl) rfl rfl) ?_
 refine w2 ?_
 refine alI 54 fun _=> ?_
 refine w3 ?_
 refine lc (Qg W7 ⟨_,_,rfl,(Qo rfl),⟨_,_,rfl,(Qo rfl),rfl⟩⟩ (au.1 rfl) rfl rfl) ?_
 refine lc (dP 50 [] (Zc c d ss cs as_ ps k ((c.1.length:Int),decide (c4=43)) (p.1, !true) (by refine ⟨?_, ?_⟩ <;> (try dsimp only) <;> omega) F (by omega) (by omega)) Xm) ?_
 refine w_ ?_
 refine XP (N _ ⟨true,(psP ps (p.1, !true)),(cdP c ps cs (p.1, !true)),(as_++[(k,((c.1.length:Int),decide (c4=43)).1,((c.1.length:Int),decide (c4=43)).2,ixP ps (p.1, !true))]),(by unfold ZV; rw[Qv (p:=p.1) ‹_›]; simp[*]),(by (rw[QbC (by unfold ZV; rw[Qv (p:=p.1) ‹_›]; simp[*]),Qv ‹_›]; simp[Kt, *]; done)),(by (exact ⟨XV,XU,by simp⟩)),rfl⟩) ?_
 exact wp [(7,55),(8,53),(9,54)] ⟨rfl,rfl,rfl,(congrArg (fun z_=>some (Ent.box 207 [dI p.1,dB z_])) ((C).symm)),rfl,rfl,rfl,trivial⟩
 have I:=ab A
 refine w5 ?_
 cases D:(p.2)
 refine w3 ?_
 refine Qi rfl rfl rfl ?_ rfl
 refine Qi rfl rfl rfl ?_ rfl
 refine w14 ?_
 refine lc (Qr (Qa rfl) (Qw 43 rfl) rfl)<|lc (Qg Ws ⟨_,_,rfl,(Qo rfl),⟨_,_,rfl,(Qo rfl),rfl⟩⟩ (au.1 rfl) rfl rfl) ?_
 refine w2 ?_
 refine alI 54 fun _=> ?_
 refine w3 ?_
 refine lc (Qg W7 ⟨_,_,rfl,(Qo rfl),⟨_,_,rfl,(Qo rfl),rfl⟩⟩ (au.1 rfl) rfl rfl) ?_
 refine lc (dP 56 [] (Zc c d ss cs as_ ps k ((c.1.length:Int),decide (c4=43)) (p.1, !false) (by refine ⟨?_, ?_⟩ <;> (try dsimp only) <;> omega) F (by omega) (by omega)) Xm) ?_
 refine w_ ?_
 refine XP (N _ ⟨true,(psP ps (p.1, !false)),(cdP c ps cs (p.1, !false)),(as_++[(k,((c.1.length:Int),decide (c4=43)).1,((c.1.length:Int),decide (c4=43)).2,ixP ps (p.1, !false))]),(by unfold ZV; rw[Qv (p:=p.1) ‹_›]; simp[*]),(by (rw[QbC (by unfold ZV; rw[Qv (p:=p.1) ‹_›]; simp[*]),Qv ‹_›]; simp[Kt, *]; done)),(by (exact ⟨XV,XU,by simp⟩)),rfl⟩) ?_
 exact wp [(7,61),(8,59),(9,60)] ⟨rfl,rfl,rfl,(congrArg (fun z_=>some (Ent.box 207 [dI p.1,dB z_])) ((D).symm)),rfl,rfl,rfl,trivial⟩
 refine w_ ?_
 refine lgy rfl rfl (Qr (Qa rfl) (Qw 45 rfl) rfl) ?_
 refine w_ ?_
 have E:(decide (c4=45))=false:=aH fun g=>absurd ((ab (A)).symm.trans g) (by decide)
 have S:=aa E
 try rw[E]
 refine w12 ?_
 refine XP (N _ ⟨false,ps,cs,as_,(by unfold ZV; rw[Qv (p:=p.1) ‹_›]; simp[*]),(by (rw[QfQ (by unfold ZV; rw[Qv (p:=p.1) ‹_›]; simp[*])]; done)),(by (exact ⟨by omega,by omega,by omega⟩)),rfl⟩) ?_
 exact wp [(7,5),(8,3),(9,4)] ⟨rfl,rfl,rfl,(congrArg (fun z_=>some (Ent.box 207 [dI p.1,dB z_])) ((D).symm)),rfl,rfl,rfl,trivial⟩
end Go.Proofs.YtgpdhgadmjfokaaGreat
