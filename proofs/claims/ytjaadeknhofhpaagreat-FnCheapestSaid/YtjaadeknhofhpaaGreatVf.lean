/- Walks over abstract states: the arcs that leave a state of the new graph. -/
import Derived.Test.YtjaadeknhofhpaaGreatVe
set_option linter.unusedSimpArgs false
set_option linter.unusedVariables false
set_option linter.unusedSectionVars false
namespace Go.Proofs.YtjaadeknhofhpaaGreat
open Go.RowKit
set_option maxRecDepth 100000
set_option maxHeartbeats 4000000
abbrev Ins:=List PSt×List ByteArray×List DAr
def Yf (s:ByteArray)(p:PSt):Bool:=(decide (bAt s p.1=43)&& !p.2)||(decide (bAt s p.1=45)&&p.2)
def X9 (s:ByteArray)(p:PSt)(a:DAr):Bool:=(decide (bAt s a.2.2.2=48)&&p.2)||(decide (bAt s a.2.2.2=49)&& !p.2)||(Yf s p&&Zs s a)
def Kq (c:DSg)(st:Ins)(k:Int)(l:Zy)(p:PSt):Ins:=(psP st.1 p,cdP c st.1 st.2.1 p,st.2.2++[(k,l.1,l.2,ixP st.1 p)])
def K9 (c:DSg)(s:ByteArray)(k:Int)(p:PSt)(st:Ins)(a:DAr):Ins:=if X9 s p a=true then st else Kq c st k (a.2.1,a.2.2.1) (a.2.2.2,p.2)
def QcH (c:DSg)(s:ByteArray)(st:Ins)(k:Int)(p:PSt):Ins:=if Yf s p=true then Kq c st k ((c.1.length:Int),decide (bAt s p.1=43)) (p.1, !p.2) else st
def Vw (c:DSg)(s:ByteArray)(st:Ins)(k:Int):Ins:=match st.1[k.toNat]? with
  | none=>st
  | some p=>(Z7 c.2.2 p.1).foldl (K9 c s k p) (QcH c s st k p)
section
variable {c:DSg}{s:ByteArray}{st:Ins}{k:Int}{p:PSt}{a:DAr}{i:Nat}{x:UInt8}{l:List DAr}
theorem Ql0 (h:st.1[k.toNat]? =some p):Vw c s st k=(Z7 c.2.2 p.1).foldl (K9 c s k p) (QcH c s st k p):=by unfold Vw; rw[h]
theorem ZZ {α β:Type _}{l:List α}{f:β→α→β}{b:β}{i:Nat}{x:α}(hx:l[i]? =some x):(l.drop i).foldl f b=(l.drop (i+1)).foldl f (f b x):=by rw[Yb hx,aS]
theorem VI {α β:Type _}{l:List α}{f:β→α→β}{b:β}{i:Nat}(h:l.length≤i):(l.drop i).foldl f b=b:=by rw[bt h]; rfl
theorem Wl (h:X9 s p a=true):K9 c s k p st a=st:=if_pos h
theorem Vb (h:X9 s p a=false):K9 c s k p st a=Kq c st k (a.2.1,a.2.2.1) (a.2.2.2,p.2):=if_neg (by rw[h]; decide)
theorem QcZ (h:Yf s p=true):QcH c s st k p=Kq c st k ((c.1.length:Int),decide (bAt s p.1=43)) (p.1, !p.2):=if_pos h
theorem QgB (h:Yf s p=false):QcH c s st k p=st:=if_neg (by rw[h]; decide)
end
theorem Zh (c:DSg)(signs:ByteArray)(ss:List QJ)(cs:List ByteArray)(as_:List DAr)(ps:List PSt)(q:Int)(l:Int×Bool)(p:Int×Bool)(hp:0≤p.1∧p.1 < (c.2.1.length:Int))(hc:∀x∈c.2.1,x.size≤1000)(hl:ps.length≤1000000∧cs.length≤1000000)(ha:as_.length≤100000000):FC Tryz.prog 321 [(false,[.ptr 0 0]),(false,[dI q]),(true,[dI l.1,dB l.2]),(true,[dI p.1,dB p.2])] [(0,some (.box 265 [.dat Qo c.1, .dat Qr c.2.1, .dat QD c.2.2,dS signs, .ref 1, .ref 3, .ref 4, .ref 5, .ref 2])),(1,some (.arr 90 QK ss)),(3,some (.arr 9 .str cs)),(4,some (.arr 106 QA as_)),(5,some (.arr 268 Qw ps)),(2,some (.mp true Qw false .int (YJ ps)))] 3 (Is (PV.tup []) [(0,some (.box 265 [.dat Qo c.1, .dat Qr c.2.1, .dat QD c.2.2,dS signs, .ref 1, .ref 3, .ref 4, .ref 5, .ref 2])),(1,some (.arr 90 QK ss)),(3,some (.arr 9 .str (cdP c ps cs p))),(4,some (.arr 106 QA (as_++[(q,l.1,l.2,ixP ps p)]))),(5,some (.arr 268 Qw (psP ps p))),(2,some (.mp true Qw false .int (YJ (psP ps p))))]):=by
 refine Qy Tryz.func321 rfl rfl Tryz.ntmps321 fun O_ hO w0_ N0_ X_ h0_ f0_=> ?_
 refine AC.fact (Ql (x:= .tmp 1) (Qa rfl)) fun hi1=>AC.fact (QH (x:= .tmp 2) (i:=0) (Qf rfl) rfl) fun hi2=>AC.fact (QH (x:= .tmp 3) (i:=0) (Qf rfl) rfl) fun hi3=> ?_
 refine w_ ?_
 refine xbx 6 ?_
 refine xbx 7 ?_
 refine w_ ?_
 apply dV [io 8 _,io 9 _,io 10 (lP 0 0),io 11 (lP 0 4),io 12 (lP 0 6),io 13 (lR 4),io 14 _,io 15 _,io 16 _,io 17 _,io 18 _,io 19 _,io 20 _,⟨some 21,lI (ixP ps p),[(0,some (.box 265 [.dat Qo c.1, .dat Qr c.2.1, .dat QD c.2.2,dS signs, .ref 1, .ref 12, .ref 4, .ref 13, .ref 2])),(1,some (.arr 90 QK ss)),(12,some (.arr 9 .str (cdP c ps cs p))),(4,some (.arr 106 QA as_)),(13,some (.arr 268 Qw (psP ps p))),(2,some (.mp true Qw false .int (YJ (psP ps p)))),(0,none),(1,none),(3,none),(4,none),(5,none),(2,none)]⟩,io 22 (ag [dI q,dI l.1,dB l.2,dI (ixP ps p)]),⟨some 23,lR 14,[(14,some (.arr 106 QA ([(q,l.1,l.2,ixP ps p)])))]⟩,⟨some 24,lR 15,[(15,some (.arr 106 QA (as_++([(q,l.1,l.2,ixP ps p)])))),(4,none),(14,none)]⟩,io 25 _,io 26 _,io 27 _,⟨none,lf (.val undef),[(0,some (.box 265 [.dat Qo c.1, .dat Qr c.2.1, .dat QD c.2.2,dS signs, .ref 1, .ref 12, .ref 15, .ref 13, .ref 2]))]⟩] [0,1,1,1,1,1,63,127,127,511,511,2047,4095,2047,63,63,1,0,0,0,0]
 iterate 2 refine z_ ?_
 refine zz (fun _ h_=>by rcases h_.en2 0 13 rfl with hq0 | hq0 <;> exact ac (Wo (h_.v rfl) (by rw[hq0]; rfl) rfl) rfl)<|zz (fun _ h_=>by rcases h_.en2 0 13 rfl with hq0 | hq0 <;> exact ac (ZN (h_.v rfl) Qoo (by rw[hq0]; rfl) rfl) rfl)<|zz (fun _ h_=>by rcases h_.en2 0 13 rfl with hq0 | hq0 <;> exact ac (ZN (h_.v rfl) Jj (by rw[hq0]; rfl) rfl) rfl)<|zz (fun _ h_=>by rcases h_.en2 0 13 rfl with hq0 | hq0 <;> exact ac (Xs (h_.v rfl) hq0 UC rfl rfl) rfl) ?_
 iterate 7 refine z_ ?_
 refine zz (fun _ h_=>ac (dP 8 [(2,4),(3,2),(4,3)] (YL c signs ss cs as_ ps p hp hc hl) Qad) rfl) ?_
 refine zz (fun _ h_=>ac (Qi JV ⟨_,_,rfl,(h_.w rfl),⟨_,_,rfl,(h_.w rfl),⟨_,_,rfl,(h_.w rfl),⟨_,_,rfl,(h_.w rfl),rfl⟩⟩⟩⟩ (ah.1 rfl) rfl rfl) rfl) ?_
 refine zz (fun _ h_=>ac (dBs 14 (e:=QA) Za (hab:=by exact ⟨_,_,_,_,rfl,⟨[dI q],[dI l.1,dB l.2,dI (ixP ps p)],_,_,_,_,rfl,rfl,⟨rfl,rfl⟩,⟨[dI l.1],[dB l.2,dI (ixP ps p)],_,_,_,_,rfl,rfl,⟨rfl,rfl⟩,⟨[dB l.2],[dI (ixP ps p)],_,_,_,_,rfl,rfl,⟨rfl,rfl⟩,⟨rfl,rfl⟩,rfl⟩,rfl⟩,rfl⟩,⟨rfl,rfl⟩,rfl⟩)) rfl) ?_
 refine zz (fun _ h_=>ac (dA 15 Uh) rfl) ?_
 iterate 3 refine z_ ?_
 refine zz (fun _ h_=>ac (QZ (h_.v rfl) (h_.en 0 rfl) (h_.w rfl) (by simp only[Q6,Wx,aW,bc]; rw[(h_.en 15 rfl)]; rfl) UC rfl) rfl) ?_
 exact zN
 refine (?_:fin _ _ _ _ .normal _)
 subst hO
 exact QF _ _ [(3,12),(4,15),(5,13)] (JH rfl) (rfl) ⟨rfl,rfl,rfl,(Qh (by rfl)),rfl,rfl,trivial⟩ rfl rfl
theorem UT (c:DSg)(signs:ByteArray)(ss:List QJ)(cs:List ByteArray)(as_:List DAr)(ps:List PSt)(k:Int)(hk:0≤k∧k < (ps.length:Int))(hs:SignsOk c signs)(hps:∀p∈ps,0≤p.1∧p.1 < (c.2.1.length:Int))(hl:ps.length≤10000∧cs.length≤10000∧as_.length≤90000000):FC Tryz.prog 243 [(false,[.ptr 0 0]),(false,[dI k])] [(0,some (.box 265 [.dat Qo c.1, .dat Qr c.2.1, .dat QD c.2.2,dS signs, .ref 1, .ref 3, .ref 4, .ref 5, .ref 2])),(1,some (.arr 90 QK ss)),(3,some (.arr 9 .str cs)),(4,some (.arr 106 QA as_)),(5,some (.arr 268 Qw ps)),(2,some (.mp true Qw false .int (YJ ps)))] 3 (Is (PV.tup []) [(0,some (.box 265 [.dat Qo c.1, .dat Qr c.2.1, .dat QD c.2.2,dS signs, .ref 1, .ref 3, .ref 4, .ref 5, .ref 2])),(1,some (.arr 90 QK ss)),(3,some (.arr 9 .str ((Vw c signs (ps,cs,as_) k).2.1))),(4,some (.arr 106 QA ((Vw c signs (ps,cs,as_) k).2.2))),(5,some (.arr 268 Qw ((Vw c signs (ps,cs,as_) k).1))),(2,some (.mp true Qw false .int (YJ ((Vw c signs (ps,cs,as_) k).1))))]):=by
 have hsz:=hs.2.1
 have hn3:=hs.2.2.some_
 have hfw:=hs.2.2.few
 have hsl:=UF hs.2.2.sigs
 have hc:∀x∈c.2.1,x.size≤1000:=fun x hx=>by have:=(hs.2.2.codes x hx).2; omega
 refine Qy Tryz.func243 rfl rfl Tryz.ntmps243 fun O_ hO w0_ N0_ X_ h0_ f0_=> ?_
 refine AC.fact (Ql (x:= .tmp 1) (Qa rfl)) fun hi1=> ?_
 obtain ⟨p,hx3⟩:=gx ps ((k).toNat)
 have hpr:=hps _ (a8 hx3)
 have hxp:=hx3
 have hfl:=Qa6 (l:=c.2.2) (q:=p.1)
 apply dW [io 11 _,io 12 _,io 13 _,io 14 _,io 15 _,io 16 (lf (.ept 5 2 ((k).toNat) 0)),io 17 (ag [dI p.1,dB p.2]),io 18 _,io 19 _,io 20 _,io 21 _,io 22 _,io 23 _,⟨some 4,lP 6 0,[(6,some (.box 268 [dI 0,dB false]))]⟩,⟨none,lf (.val undef),[(6,some (.box 268 [dI p.1,dB p.2]))]⟩,io 5 _] [0,0,0,0,15,0,0,127,127,127,127,127,127,8191,8064,0]
 iterate 5 refine z_ ?_
 refine zz (fun _ h_=>ac (QS (e:=Qw) (h_.v rfl) (h_.en 5 rfl) (h_.v rfl) QrR Qml rfl (by omega) (by first | omega | (simp only[au]; omega))) rfl)<|zz (fun _ h_=>ac (Ua (e:=Qw) (h_.v rfl) (h_.n 5 rfl) hx3 rfl Qml rfl rfl) rfl) ?_
 iterate 6 refine z_ ?_
 refine zz (fun _ h_=>ac (Xp 6 Qw Qc3 rfl rfl (h_.fr 6 rfl) (nlr rfl)) rfl) ?_
 iterate 2 refine z_ ?_
 exact zN
 obtain ⟨c4,hc5⟩:=gs signs ((p.1).toNat)
 apply dW [io 24 _,io 25 _,io 26 _,io 27 _,io 28 _,io 29 _,io 30 _,io 6 _] [0,0,0,0,15,15,0,0]
 iterate 8 refine z_ ?_
 exact zN
 refine QdX (fun s_=>∃(w:Bool) (ps2:List (Int×Bool)) (cs2:List ByteArray) (as2:List (Int×Int×Bool×Int)),(Yf signs p=w)∧((ps2,cs2,as2)=QcH c signs (ps,cs,as_) k p)∧(ps2.length≤ps.length+1∧cs2.length≤cs.length+1∧as2.length≤as_.length+1)∧s_=⟨[(0,lP 0 0),(1,lI k),(4,lP 6 0),(7,lB w)],[(0,some (.box 265 [.dat Qo c.1, .dat Qr c.2.1, .dat QD c.2.2,dS signs, .ref 1, .ref 8, .ref 9, .ref 7, .ref 2])),(1,some (.arr 90 QK ss)),(2,some (.mp true Qw false .int (YJ ps2))),(6,some (.box 268 [dI p.1,dB p.2])),(7,some (.arr 268 Qw ps2)),(8,some (.arr 9 .str cs2)),(9,some (.arr 106 QA as2))]⟩) ?_ fun J6=> ?_
 rintro s_ ⟨w,ps2,cs2,as2,hw,hP,hl2,rfl⟩
 apply dW [io 60 _,io 61 _,io 62 _,io 63 _,io 64 _,io 65 _,io 66 (lf (.dat QD (Z7 c.2.2 p.1))),io 67 _,io 68 _] [0,0,0,0,15,15,0,0,255]
 iterate 6 refine z_ ?_
 refine zz (fun _ h_=>ac (dK (Qb9 c p.1 (by omega)).frozen QjE) rfl) ?_
 iterate 2 refine z_ ?_
 exact zN
 refine w_ ?_
 refine Qm (fun m_ s_=>∃(i:Nat) (ps3:List (Int×Bool)) (cs3:List ByteArray) (as3:List (Int×Int×Bool×Int)),i≤(Z7 c.2.2 p.1).length∧m_=(Z7 c.2.2 p.1).length - i∧(Vw c signs (ps,cs,as_) k=((Z7 c.2.2 p.1).drop i).foldl (K9 c signs k p) (ps3,cs3,as3))∧(ps3.length≤ps.length+1+i∧cs3.length≤cs.length+1+i∧as3.length≤as_.length+1+i)∧s_=⟨[(0,lP 0 0),(1,lI k),(4,lP 6 0),(7,lB w),(66,lf (.dat QD (Z7 c.2.2 p.1))),(67,lI ((Z7 c.2.2 p.1).length:Int)),(68,lI (i:Int))],[(0,some (.box 265 [.dat Qo c.1, .dat Qr c.2.1, .dat QD c.2.2,dS signs, .ref 1, .ref 11, .ref 12, .ref 10, .ref 2])),(1,some (.arr 90 QK ss)),(2,some (.mp true Qw false .int (YJ ps3))),(6,some (.box 268 [dI p.1,dB p.2])),(10,some (.arr 268 Qw ps3)),(11,some (.arr 9 .str cs3)),(12,some (.arr 106 QA as3))]⟩) ⟨0,ps2,cs2,as2,ap _,rfl,(by rw[hP]; exact Ql0 hxp),(by omega),rfl⟩ ?_ ?_
 exact wo [(10,7),(11,8),(12,9)]
 rintro m_ s_ ⟨i,ps3,cs3,as3,hk7,hm8,hA,hl3,rfl⟩
 iterate 4 refine w_ ?_
 cases hb9:(decide ((i:Int) < ((Z7 c.2.2 p.1).length:Int)))
 have hb9':=a6 hb9
 iterate 2 refine w_ ?_
 refine (?_:fin _ _ _ _ .normal _)
 subst hO
 exact QF _ _ [(3,11),(4,12),(5,10)] (JH rfl) (rfl) ⟨rfl,rfl,(Qh (by (rw[hA,VI (by omega)]; done))),(Qh (by (rw[hA,VI (by omega)]; done))),(Qh (by (rw[hA,VI (by omega)]; done))),(QtV (by (rw[hA,VI (by omega)]; done))),trivial⟩ rfl rfl
 have hb9':=a7 hb9
 iterate 5 refine w_ ?_
 obtain ⟨x10,hx11⟩:=gx (Z7 c.2.2 p.1) i
 have hmx10:=Qd6.1 (a8 hx11)
 have hrx10:=hs.at_ hmx10.1
 iterate 2 refine w_ ?_
 refine lc (xal 13 QA Za) ?_
 iterate 3 refine w_ ?_
 obtain ⟨c12,hc13⟩:=gs signs ((x10.2.2.2).toNat)
 apply dW [io 72 _,io 73 _,io 74 _,io 75 _,io 76 _,io 77 _,io 78 _,io 10 _] [0,0,0,0,15,15,0,0]
 iterate 8 refine z_ ?_
 exact zN
 cases hb14:(decide (c12=48))
 have hb14':=a6 hb14
 cases hb15:(decide (c12=49))
 have hb15':=a6 hb15
 cases hb16:(w)
 apply dW [io 79 _,io 80 (lB false),io 81 _,io 82 _,io 83 _,io 84 _,io 85 _,io 86 _,io 87 (lB false),io 88 _,io 89 _,io 90 _,io 91 _,io 92 _,io 93 _,io 94 _,io 95 _,io 96 _,io 97 _,io 98 _,io 99 _,io 100 _,io 101 _,io 102 _,io 103 _,io 104 _] [0,0,0,0,0,0,0,0,0,0,0,0,0,0,0,0,0,0,0,262144,262144,262144,262144,0,0,0]
 refine z_ ?_
 refine zz (fun _ h_=>ac (QL (hb14) (Qt (h_.v rfl) (QB 48 rfl) rfl)) rfl) ?_
 iterate 6 refine z_ ?_
 refine zz (fun _ h_=>day rfl (h_.k rfl) (QL (hb15) (Qt (h_.v rfl) (QB 49 rfl) rfl)) rfl) ?_
 iterate 17 refine z_ ?_
 exact zN
 iterate 2 refine w_ ?_
 apply dV [io 105 _,io 106 _,io 107 _,io 108 (ag [dI x10.2.1,dB x10.2.2.1]),io 109 _,io 110 _,io 111 _,io 112 _,io 113 (ag [dI x10.2.2.2,dB p.2]),⟨some 114,PV.tup [],[(0,some (.box 265 [.dat Qo c.1, .dat Qr c.2.1, .dat QD c.2.2,dS signs, .ref 1, .ref 17, .ref 18, .ref 19, .ref 2])),(1,some (.arr 90 QK ss)),(17,some (.arr 9 .str (cdP c ps3 cs3 (x10.2.2.2,p.2)))),(18,some (.arr 106 QA (as3++[(k,(x10.2.1,x10.2.2.1).1,(x10.2.1,x10.2.2.1).2,ixP ps3 (x10.2.2.2,p.2))]))),(19,some (.arr 268 Qw (psP ps3 (x10.2.2.2,p.2)))),(2,some (.mp true Qw false .int (YJ (psP ps3 (x10.2.2.2,p.2))))),(0,none),(1,none),(11,none),(12,none),(10,none),(2,none)]⟩] [0,1,3,3,15,15,63,63,15,0]
 iterate 3 refine z_ ?_
 refine zz (fun _ h_=>ac (dK (Zj x10) Y3) rfl) ?_
 iterate 4 refine z_ ?_
 refine zz (fun _ h_=>ac (Qi W5 ⟨_,_,rfl,(h_.w rfl),⟨_,_,rfl,(h_.w rfl),rfl⟩⟩ (ah.1 rfl) rfl rfl) rfl) ?_
 refine zz (fun _ h_=>ac (dP 14 [(3,11),(4,12),(5,10)] (Zh c signs ss cs3 as3 ps3 k (x10.2.1,x10.2.2.1) (x10.2.2.2,p.2) (by refine ⟨?_, ?_⟩ <;> (try dsimp only) <;> omega) hc (by omega) (by omega)) Xw) rfl) ?_
 exact zN
 iterate 4 refine w_ ?_
 refine Qc<|QE ⟨i+1,(psP ps3 (x10.2.2.2,p.2)),(cdP c ps3 cs3 (x10.2.2.2,p.2)),(as3++[(k,(x10.2.1,x10.2.2.1).1,(x10.2.1,x10.2.2.1).2,ixP ps3 (x10.2.2.2,p.2))]),by omega,rfl,(by (rw[hA,ZZ hx11,Vb (by unfold X9; rw[QC ‹_›]; simp[*])]; simp[Kq, *]; done)),(by (exact ⟨b4 XT (by omega),b4 XW (by omega),by rw[aa]; simp; omega⟩)),rfl⟩ (by omega) ?_
 exact wo [(10,19),(11,17),(12,18)]
 apply dW [io 79 _,io 80 (lB false),io 81 _,io 82 _,io 83 _,io 84 _,io 85 _,io 86 _,io 87 (lB false),io 88 _,io 89 _,io 90 _,io 91 _,io 92 _,io 93 _,io 94 _,io 95 _,io 96 _,io 97 _,io 98 _,io 99 _,io 100 _,io 101 _,io 102 (lB (Zs signs x10)),io 103 _,io 104 _] [0,0,0,0,0,0,0,0,0,0,0,0,0,0,0,0,0,0,0,262144,262144,262144,262144,0,0,0]
 refine z_ ?_
 refine zz (fun _ h_=>ac (QL (hb14) (Qt (h_.v rfl) (QB 48 rfl) rfl)) rfl) ?_
 iterate 6 refine z_ ?_
 refine zz (fun _ h_=>day rfl (h_.k rfl) (QL (hb15) (Qt (h_.v rfl) (QB 49 rfl) rfl)) rfl) ?_
 iterate 14 refine z_ ?_
 refine zz (fun _ h_=>day rfl (h_.k rfl) (dK (Xh x10 signs (by omega) (by omega)) Ks) rfl) ?_
 iterate 2 refine z_ ?_
 exact zN
 cases hb17:(Zs signs x10)
 iterate 2 refine w_ ?_
 apply dV [io 105 _,io 106 _,io 107 _,io 108 (ag [dI x10.2.1,dB x10.2.2.1]),io 109 _,io 110 _,io 111 _,io 112 _,io 113 (ag [dI x10.2.2.2,dB p.2]),⟨some 114,PV.tup [],[(0,some (.box 265 [.dat Qo c.1, .dat Qr c.2.1, .dat QD c.2.2,dS signs, .ref 1, .ref 23, .ref 24, .ref 25, .ref 2])),(1,some (.arr 90 QK ss)),(23,some (.arr 9 .str (cdP c ps3 cs3 (x10.2.2.2,p.2)))),(24,some (.arr 106 QA (as3++[(k,(x10.2.1,x10.2.2.1).1,(x10.2.1,x10.2.2.1).2,ixP ps3 (x10.2.2.2,p.2))]))),(25,some (.arr 268 Qw (psP ps3 (x10.2.2.2,p.2)))),(2,some (.mp true Qw false .int (YJ (psP ps3 (x10.2.2.2,p.2))))),(0,none),(1,none),(11,none),(12,none),(10,none),(2,none)]⟩] [0,1,3,3,15,15,63,63,15,0]
 iterate 3 refine z_ ?_
 refine zz (fun _ h_=>ac (dK (Zj x10) Y3) rfl) ?_
 iterate 4 refine z_ ?_
 refine zz (fun _ h_=>ac (Qi W5 ⟨_,_,rfl,(h_.w rfl),⟨_,_,rfl,(h_.w rfl),rfl⟩⟩ (ah.1 rfl) rfl rfl) rfl) ?_
 refine zz (fun _ h_=>ac (dP 20 [(3,11),(4,12),(5,10)] (Zh c signs ss cs3 as3 ps3 k (x10.2.1,x10.2.2.1) (x10.2.2.2,p.2) (by refine ⟨?_, ?_⟩ <;> (try dsimp only) <;> omega) hc (by omega) (by omega)) Xw) rfl) ?_
 exact zN
 iterate 4 refine w_ ?_
 refine Qc<|QE ⟨i+1,(psP ps3 (x10.2.2.2,p.2)),(cdP c ps3 cs3 (x10.2.2.2,p.2)),(as3++[(k,(x10.2.1,x10.2.2.1).1,(x10.2.1,x10.2.2.1).2,ixP ps3 (x10.2.2.2,p.2))]),by omega,rfl,(by (rw[hA,ZZ hx11,Vb (by unfold X9; rw[QC ‹_›]; simp[*])]; simp[Kq, *]; done)),(by (exact ⟨b4 XT (by omega),b4 XW (by omega),by rw[aa]; simp; omega⟩)),rfl⟩ (by omega) ?_
 exact wo [(10,25),(11,23),(12,24)]
 iterate 6 refine w_ ?_
 refine Qc<|QE ⟨i+1,ps3,cs3,as3,by omega,rfl,(by (rw[hA,ZZ hx11,Wl (by unfold X9; rw[QC ‹_›]; simp[*])]; done)),(by omega),rfl⟩ (by omega) ?_
 exact wo []
 have hb15':=a7 hb15
 cases hb18:(p.2)
 apply dW [io 79 _,io 80 (lB false),io 81 _,io 82 _,io 83 _,io 84 _,io 85 _,io 86 _,io 87 (lB true),io 88 _,io 89 _,io 90 _,io 91 _,io 92 _,io 93 _,io 94 _,io 95 _,io 96 _,io 97 _,io 98 _,io 99 _,io 100 _,io 101 _,io 102 _,io 103 _,io 104 _] [0,0,0,0,0,0,0,0,0,0,0,0,0,0,0,0,0,0,0,262144,262144,262144,262144,0,0,0]
 refine z_ ?_
 refine zz (fun _ h_=>ac (QL (hb14) (Qt (h_.v rfl) (QB 48 rfl) rfl)) rfl) ?_
 iterate 6 refine z_ ?_
 refine zz (fun _ h_=>day rfl (h_.k rfl) (QL (hb15) (Qt (h_.v rfl) (QB 49 rfl) rfl)) rfl) ?_
 iterate 17 refine z_ ?_
 exact zN
 iterate 6 refine w_ ?_
 refine Qc<|QE ⟨i+1,ps3,cs3,as3,by omega,rfl,(by (rw[hA,ZZ hx11,Wl (by unfold X9; rw[QC ‹_›]; simp[*])]; done)),(by omega),rfl⟩ (by omega) ?_
 exact wo []
 cases hb19:(w)
 apply dW [io 79 _,io 80 (lB false),io 81 _,io 82 _,io 83 _,io 84 _,io 85 _,io 86 _,io 87 (lB true),io 88 _,io 89 _,io 90 _,io 91 _,io 92 _,io 93 _,io 94 _,io 95 _,io 96 _,io 97 _,io 98 _,io 99 _,io 100 _,io 101 _,io 102 _,io 103 _,io 104 _] [0,0,0,0,0,0,0,0,0,0,0,0,0,0,0,0,0,0,0,262144,262144,262144,262144,0,0,0]
 refine z_ ?_
 refine zz (fun _ h_=>ac (QL (hb14) (Qt (h_.v rfl) (QB 48 rfl) rfl)) rfl) ?_
 iterate 6 refine z_ ?_
 refine zz (fun _ h_=>day rfl (h_.k rfl) (QL (hb15) (Qt (h_.v rfl) (QB 49 rfl) rfl)) rfl) ?_
 iterate 17 refine z_ ?_
 exact zN
 iterate 2 refine w_ ?_
 apply dV [io 105 _,io 106 _,io 107 _,io 108 (ag [dI x10.2.1,dB x10.2.2.1]),io 109 _,io 110 _,io 111 _,io 112 _,io 113 (ag [dI x10.2.2.2,dB true]),⟨some 114,PV.tup [],[(0,some (.box 265 [.dat Qo c.1, .dat Qr c.2.1, .dat QD c.2.2,dS signs, .ref 1, .ref 29, .ref 30, .ref 31, .ref 2])),(1,some (.arr 90 QK ss)),(29,some (.arr 9 .str (cdP c ps3 cs3 (x10.2.2.2,true)))),(30,some (.arr 106 QA (as3++[(k,(x10.2.1,x10.2.2.1).1,(x10.2.1,x10.2.2.1).2,ixP ps3 (x10.2.2.2,true))]))),(31,some (.arr 268 Qw (psP ps3 (x10.2.2.2,true)))),(2,some (.mp true Qw false .int (YJ (psP ps3 (x10.2.2.2,true))))),(0,none),(1,none),(11,none),(12,none),(10,none),(2,none)]⟩] [0,1,3,3,15,15,63,63,15,0]
 iterate 3 refine z_ ?_
 refine zz (fun _ h_=>ac (dK (Zj x10) Y3) rfl) ?_
 iterate 4 refine z_ ?_
 refine zz (fun _ h_=>ac (Qi W5 ⟨_,_,rfl,(h_.w rfl),⟨_,_,rfl,(h_.w rfl),rfl⟩⟩ (ah.1 rfl) rfl rfl) rfl) ?_
 refine zz (fun _ h_=>ac (dP 26 [(3,11),(4,12),(5,10)] (Zh c signs ss cs3 as3 ps3 k (x10.2.1,x10.2.2.1) (x10.2.2.2,true) (by refine ⟨?_, ?_⟩ <;> (try dsimp only) <;> omega) hc (by omega) (by omega)) Xw) rfl) ?_
 exact zN
 iterate 4 refine w_ ?_
 refine Qc<|QE ⟨i+1,(psP ps3 (x10.2.2.2,true)),(cdP c ps3 cs3 (x10.2.2.2,true)),(as3++[(k,(x10.2.1,x10.2.2.1).1,(x10.2.1,x10.2.2.1).2,ixP ps3 (x10.2.2.2,true))]),by omega,rfl,(by (rw[hA,ZZ hx11,Vb (by unfold X9; rw[QC ‹_›]; simp[*])]; simp[Kq, *]; done)),(by (exact ⟨b4 XT (by omega),b4 XW (by omega),by rw[aa]; simp; omega⟩)),rfl⟩ (by omega) ?_
 exact wo [(10,31),(11,29),(12,30)]
 apply dW [io 79 _,io 80 (lB false),io 81 _,io 82 _,io 83 _,io 84 _,io 85 _,io 86 _,io 87 (lB true),io 88 _,io 89 _,io 90 _,io 91 _,io 92 _,io 93 _,io 94 _,io 95 _,io 96 _,io 97 _,io 98 _,io 99 _,io 100 _,io 101 _,io 102 (lB (Zs signs x10)),io 103 _,io 104 _] [0,0,0,0,0,0,0,0,0,0,0,0,0,0,0,0,0,0,0,262144,262144,262144,262144,0,0,0]
 refine z_ ?_
 refine zz (fun _ h_=>ac (QL (hb14) (Qt (h_.v rfl) (QB 48 rfl) rfl)) rfl) ?_
 iterate 6 refine z_ ?_
 refine zz (fun _ h_=>day rfl (h_.k rfl) (QL (hb15) (Qt (h_.v rfl) (QB 49 rfl) rfl)) rfl) ?_
 iterate 14 refine z_ ?_
 refine zz (fun _ h_=>day rfl (h_.k rfl) (dK (Xh x10 signs (by omega) (by omega)) Ks) rfl) ?_
 iterate 2 refine z_ ?_
 exact zN
 cases hb20:(Zs signs x10)
 iterate 2 refine w_ ?_
 apply dV [io 105 _,io 106 _,io 107 _,io 108 (ag [dI x10.2.1,dB x10.2.2.1]),io 109 _,io 110 _,io 111 _,io 112 _,io 113 (ag [dI x10.2.2.2,dB true]),⟨some 114,PV.tup [],[(0,some (.box 265 [.dat Qo c.1, .dat Qr c.2.1, .dat QD c.2.2,dS signs, .ref 1, .ref 35, .ref 36, .ref 37, .ref 2])),(1,some (.arr 90 QK ss)),(35,some (.arr 9 .str (cdP c ps3 cs3 (x10.2.2.2,true)))),(36,some (.arr 106 QA (as3++[(k,(x10.2.1,x10.2.2.1).1,(x10.2.1,x10.2.2.1).2,ixP ps3 (x10.2.2.2,true))]))),(37,some (.arr 268 Qw (psP ps3 (x10.2.2.2,true)))),(2,some (.mp true Qw false .int (YJ (psP ps3 (x10.2.2.2,true))))),(0,none),(1,none),(11,none),(12,none),(10,none),(2,none)]⟩] [0,1,3,3,15,15,63,63,15,0]
 iterate 3 refine z_ ?_
 refine zz (fun _ h_=>ac (dK (Zj x10) Y3) rfl) ?_
 iterate 4 refine z_ ?_
 refine zz (fun _ h_=>ac (Qi W5 ⟨_,_,rfl,(h_.w rfl),⟨_,_,rfl,(h_.w rfl),rfl⟩⟩ (ah.1 rfl) rfl rfl) rfl) ?_
 refine zz (fun _ h_=>ac (dP 32 [(3,11),(4,12),(5,10)] (Zh c signs ss cs3 as3 ps3 k (x10.2.1,x10.2.2.1) (x10.2.2.2,true) (by refine ⟨?_, ?_⟩ <;> (try dsimp only) <;> omega) hc (by omega) (by omega)) Xw) rfl) ?_
 exact zN
 iterate 4 refine w_ ?_
 refine Qc<|QE ⟨i+1,(psP ps3 (x10.2.2.2,true)),(cdP c ps3 cs3 (x10.2.2.2,true)),(as3++[(k,(x10.2.1,x10.2.2.1).1,(x10.2.1,x10.2.2.1).2,ixP ps3 (x10.2.2.2,true))]),by omega,rfl,(by (rw[hA,ZZ hx11,Vb (by unfold X9; rw[QC ‹_›]; simp[*])]; simp[Kq, *]; done)),(by (exact ⟨b4 XT (by omega),b4 XW (by omega),by rw[aa]; simp; omega⟩)),rfl⟩ (by omega) ?_
 exact wo [(10,37),(11,35),(12,36)]
 iterate 6 refine w_ ?_
 refine Qc<|QE ⟨i+1,ps3,cs3,as3,by omega,rfl,(by (rw[hA,ZZ hx11,Wl (by unfold X9; rw[QC ‹_›]; simp[*])]; done)),(by omega),rfl⟩ (by omega) ?_
 exact wo []
 have hb14':=a7 hb14
 cases hb21:(p.2)
 cases hb22:(w)
 apply dW [io 79 _,io 80 (lB true),io 81 _,io 82 _,io 83 _,io 84 _,io 85 _,io 86 _,io 87 (lB false),io 88 _,io 89 _,io 90 _,io 91 _,io 92 _,io 93 _,io 94 _,io 95 _,io 96 _,io 97 _,io 98 _,io 99 _,io 100 _,io 101 _,io 102 _,io 103 _,io 104 _] [0,0,0,0,0,0,0,0,0,0,0,0,0,0,0,0,0,0,0,262144,262144,262144,262144,0,0,0]
 refine z_ ?_
 refine zz (fun _ h_=>ac (QL (hb14) (Qt (h_.v rfl) (QB 48 rfl) rfl)) rfl) ?_
 iterate 6 refine z_ ?_
 refine zz (fun _ h_=>day rfl (h_.k rfl) (QL (az fun h_=>absurd ((a7 (hb14)).symm.trans h_) (by decide)) (Qt (h_.v rfl) (QB 49 rfl) rfl)) rfl) ?_
 iterate 17 refine z_ ?_
 exact zN
 iterate 2 refine w_ ?_
 apply dV [io 105 _,io 106 _,io 107 _,io 108 (ag [dI x10.2.1,dB x10.2.2.1]),io 109 _,io 110 _,io 111 _,io 112 _,io 113 (ag [dI x10.2.2.2,dB false]),⟨some 114,PV.tup [],[(0,some (.box 265 [.dat Qo c.1, .dat Qr c.2.1, .dat QD c.2.2,dS signs, .ref 1, .ref 41, .ref 42, .ref 43, .ref 2])),(1,some (.arr 90 QK ss)),(41,some (.arr 9 .str (cdP c ps3 cs3 (x10.2.2.2,false)))),(42,some (.arr 106 QA (as3++[(k,(x10.2.1,x10.2.2.1).1,(x10.2.1,x10.2.2.1).2,ixP ps3 (x10.2.2.2,false))]))),(43,some (.arr 268 Qw (psP ps3 (x10.2.2.2,false)))),(2,some (.mp true Qw false .int (YJ (psP ps3 (x10.2.2.2,false))))),(0,none),(1,none),(11,none),(12,none),(10,none),(2,none)]⟩] [0,1,3,3,15,15,63,63,15,0]
 iterate 3 refine z_ ?_
 refine zz (fun _ h_=>ac (dK (Zj x10) Y3) rfl) ?_
 iterate 4 refine z_ ?_
 refine zz (fun _ h_=>ac (Qi W5 ⟨_,_,rfl,(h_.w rfl),⟨_,_,rfl,(h_.w rfl),rfl⟩⟩ (ah.1 rfl) rfl rfl) rfl) ?_
 refine zz (fun _ h_=>ac (dP 38 [(3,11),(4,12),(5,10)] (Zh c signs ss cs3 as3 ps3 k (x10.2.1,x10.2.2.1) (x10.2.2.2,false) (by refine ⟨?_, ?_⟩ <;> (try dsimp only) <;> omega) hc (by omega) (by omega)) Xw) rfl) ?_
 exact zN
 iterate 4 refine w_ ?_
 refine Qc<|QE ⟨i+1,(psP ps3 (x10.2.2.2,false)),(cdP c ps3 cs3 (x10.2.2.2,false)),(as3++[(k,(x10.2.1,x10.2.2.1).1,(x10.2.1,x10.2.2.1).2,ixP ps3 (x10.2.2.2,false))]),by omega,rfl,(by (rw[hA,ZZ hx11,Vb (by unfold X9; rw[QC ‹_›]; simp[*])]; simp[Kq, *]; done)),(by (exact ⟨b4 XT (by omega),b4 XW (by omega),by rw[aa]; simp; omega⟩)),rfl⟩ (by omega) ?_
 exact wo [(10,43),(11,41),(12,42)]
 apply dW [io 79 _,io 80 (lB true),io 81 _,io 82 _,io 83 _,io 84 _,io 85 _,io 86 _,io 87 (lB false),io 88 _,io 89 _,io 90 _,io 91 _,io 92 _,io 93 _,io 94 _,io 95 _,io 96 _,io 97 _,io 98 _,io 99 _,io 100 _,io 101 _,io 102 (lB (Zs signs x10)),io 103 _,io 104 _] [0,0,0,0,0,0,0,0,0,0,0,0,0,0,0,0,0,0,0,262144,262144,262144,262144,0,0,0]
 refine z_ ?_
 refine zz (fun _ h_=>ac (QL (hb14) (Qt (h_.v rfl) (QB 48 rfl) rfl)) rfl) ?_
 iterate 6 refine z_ ?_
 refine zz (fun _ h_=>day rfl (h_.k rfl) (QL (az fun h_=>absurd ((a7 (hb14)).symm.trans h_) (by decide)) (Qt (h_.v rfl) (QB 49 rfl) rfl)) rfl) ?_
 iterate 14 refine z_ ?_
 refine zz (fun _ h_=>day rfl (h_.k rfl) (dK (Xh x10 signs (by omega) (by omega)) Ks) rfl) ?_
 iterate 2 refine z_ ?_
 exact zN
 cases hb23:(Zs signs x10)
 iterate 2 refine w_ ?_
 apply dV [io 105 _,io 106 _,io 107 _,io 108 (ag [dI x10.2.1,dB x10.2.2.1]),io 109 _,io 110 _,io 111 _,io 112 _,io 113 (ag [dI x10.2.2.2,dB false]),⟨some 114,PV.tup [],[(0,some (.box 265 [.dat Qo c.1, .dat Qr c.2.1, .dat QD c.2.2,dS signs, .ref 1, .ref 47, .ref 48, .ref 49, .ref 2])),(1,some (.arr 90 QK ss)),(47,some (.arr 9 .str (cdP c ps3 cs3 (x10.2.2.2,false)))),(48,some (.arr 106 QA (as3++[(k,(x10.2.1,x10.2.2.1).1,(x10.2.1,x10.2.2.1).2,ixP ps3 (x10.2.2.2,false))]))),(49,some (.arr 268 Qw (psP ps3 (x10.2.2.2,false)))),(2,some (.mp true Qw false .int (YJ (psP ps3 (x10.2.2.2,false))))),(0,none),(1,none),(11,none),(12,none),(10,none),(2,none)]⟩] [0,1,3,3,15,15,63,63,15,0]
 iterate 3 refine z_ ?_
 refine zz (fun _ h_=>ac (dK (Zj x10) Y3) rfl) ?_
 iterate 4 refine z_ ?_
 refine zz (fun _ h_=>ac (Qi W5 ⟨_,_,rfl,(h_.w rfl),⟨_,_,rfl,(h_.w rfl),rfl⟩⟩ (ah.1 rfl) rfl rfl) rfl) ?_
 refine zz (fun _ h_=>ac (dP 44 [(3,11),(4,12),(5,10)] (Zh c signs ss cs3 as3 ps3 k (x10.2.1,x10.2.2.1) (x10.2.2.2,false) (by refine ⟨?_, ?_⟩ <;> (try dsimp only) <;> omega) hc (by omega) (by omega)) Xw) rfl) ?_
 exact zN
 iterate 4 refine w_ ?_
 refine Qc<|QE ⟨i+1,(psP ps3 (x10.2.2.2,false)),(cdP c ps3 cs3 (x10.2.2.2,false)),(as3++[(k,(x10.2.1,x10.2.2.1).1,(x10.2.1,x10.2.2.1).2,ixP ps3 (x10.2.2.2,false))]),by omega,rfl,(by (rw[hA,ZZ hx11,Vb (by unfold X9; rw[QC ‹_›]; simp[*])]; simp[Kq, *]; done)),(by (exact ⟨b4 XT (by omega),b4 XW (by omega),by rw[aa]; simp; omega⟩)),rfl⟩ (by omega) ?_
 exact wo [(10,49),(11,47),(12,48)]
 iterate 6 refine w_ ?_
 refine Qc<|QE ⟨i+1,ps3,cs3,as3,by omega,rfl,(by (rw[hA,ZZ hx11,Wl (by unfold X9; rw[QC ‹_›]; simp[*])]; done)),(by omega),rfl⟩ (by omega) ?_
 exact wo []
 apply dW [io 79 _,io 80 (lB true),io 81 _,io 82 _,io 83 _,io 84 _,io 85 _,io 86 _,io 87 _,io 88 _,io 89 _,io 90 _,io 91 _,io 92 _,io 93 _,io 94 _,io 95 _,io 96 _,io 97 _,io 98 _,io 99 _,io 100 _,io 101 _,io 102 _,io 103 _,io 104 _] [0,0,0,0,0,0,0,0,0,0,0,0,0,0,0,0,0,0,0,262144,262144,262144,262144,0,0,0]
 refine z_ ?_
 refine zz (fun _ h_=>ac (QL (hb14) (Qt (h_.v rfl) (QB 48 rfl) rfl)) rfl) ?_
 iterate 24 refine z_ ?_
 exact zN
 iterate 6 refine w_ ?_
 refine Qc<|QE ⟨i+1,ps3,cs3,as3,by omega,rfl,(by (rw[hA,ZZ hx11,Wl (by unfold X9; rw[QC ‹_›]; simp[*])]; done)),(by omega),rfl⟩ (by omega) ?_
 exact wo []
 iterate 2 refine w_ ?_
 refine lc (Qt (Qa rfl) (QB 43 rfl) rfl) ?_
 refine w_ ?_
 cases hb24:(decide (c4=43))
 have hb24':=a6 hb24
 iterate 6 refine w_ ?_
 refine lgy rfl rfl (Qt (Qa rfl) (QB 45 rfl) rfl) ?_
 refine w_ ?_
 cases hb25:(decide (c4=45))
 have hb25':=a6 hb25
 iterate 12 refine w_ ?_
 refine XP (J6 _ ⟨false,ps,cs,as_,(by unfold Yf; rw[QC (p:=p.1) ‹_›]; simp[*]),(by (rw[QgB (by unfold Yf; rw[QC (p:=p.1) ‹_›]; simp[*])]; done)),(by (exact ⟨by omega,by omega,by omega⟩)),rfl⟩) ?_
 exact wo [(7,5),(8,3),(9,4)]
 have hb25':=a7 hb25
 iterate 10 refine w_ ?_
 cases hb26:(p.2)
 iterate 2 refine w_ ?_
 refine XP (J6 _ ⟨false,ps,cs,as_,(by unfold Yf; rw[QC (p:=p.1) ‹_›]; simp[*]),(by (rw[QgB (by unfold Yf; rw[QC (p:=p.1) ‹_›]; simp[*])]; done)),(by (exact ⟨by omega,by omega,by omega⟩)),rfl⟩) ?_
 exact wp [(7,5),(8,3),(9,4)] ⟨rfl,rfl,rfl,(congrArg (fun z_=>some (Ent.box 268 [dI p.1,dB z_])) ((hb26).symm)),rfl,rfl,rfl,trivial⟩
 iterate 6 refine w_ ?_
 refine lc (Qt (Qa rfl) (QB 43 rfl) rfl)<|lc (Qi XM ⟨_,_,rfl,(Qf rfl),⟨_,_,rfl,(Qf rfl),rfl⟩⟩ (ah.1 rfl) rfl rfl) ?_
 iterate 2 refine w_ ?_
 refine AL.fact (Ql (x:= .tmp 54) (Qa rfl)) fun hi27=> ?_
 iterate 3 refine w_ ?_
 refine lc (Qi W5 ⟨_,_,rfl,(Qf rfl),⟨_,_,rfl,(Qf rfl),rfl⟩⟩ (ah.1 rfl) rfl rfl) ?_
 refine lc (dP 50 [] (Zh c signs ss cs as_ ps k ((c.1.length:Int),decide (c4=43)) (p.1, !true) (by refine ⟨?_, ?_⟩ <;> (try dsimp only) <;> omega) hc (by omega) (by omega)) Xw) ?_
 refine w_ ?_
 refine XP (J6 _ ⟨true,(psP ps (p.1, !true)),(cdP c ps cs (p.1, !true)),(as_++[(k,((c.1.length:Int),decide (c4=43)).1,((c.1.length:Int),decide (c4=43)).2,ixP ps (p.1, !true))]),(by unfold Yf; rw[QC (p:=p.1) ‹_›]; simp[*]),(by (rw[QcZ (by unfold Yf; rw[QC (p:=p.1) ‹_›]; simp[*]),QC ‹_›]; simp[Kq, *]; done)),(by (exact ⟨XT,XW,by simp⟩)),rfl⟩) ?_
 exact wp [(7,55),(8,53),(9,54)] ⟨rfl,rfl,rfl,(congrArg (fun z_=>some (Ent.box 268 [dI p.1,dB z_])) ((hb26).symm)),rfl,rfl,rfl,trivial⟩
 have hb24':=a7 hb24
 iterate 5 refine w_ ?_
 cases hb28:(p.2)
 iterate 3 refine w_ ?_
 refine Qg rfl rfl rfl ?_ rfl
 refine Qg rfl rfl rfl ?_ rfl
 iterate 14 refine w_ ?_
 refine lc (Qt (Qa rfl) (QB 43 rfl) rfl)<|lc (Qi XM ⟨_,_,rfl,(Qf rfl),⟨_,_,rfl,(Qf rfl),rfl⟩⟩ (ah.1 rfl) rfl rfl) ?_
 iterate 2 refine w_ ?_
 refine AL.fact (Ql (x:= .tmp 54) (Qa rfl)) fun hi29=> ?_
 iterate 3 refine w_ ?_
 refine lc (Qi W5 ⟨_,_,rfl,(Qf rfl),⟨_,_,rfl,(Qf rfl),rfl⟩⟩ (ah.1 rfl) rfl rfl) ?_
 refine lc (dP 56 [] (Zh c signs ss cs as_ ps k ((c.1.length:Int),decide (c4=43)) (p.1, !false) (by refine ⟨?_, ?_⟩ <;> (try dsimp only) <;> omega) hc (by omega) (by omega)) Xw) ?_
 refine w_ ?_
 refine XP (J6 _ ⟨true,(psP ps (p.1, !false)),(cdP c ps cs (p.1, !false)),(as_++[(k,((c.1.length:Int),decide (c4=43)).1,((c.1.length:Int),decide (c4=43)).2,ixP ps (p.1, !false))]),(by unfold Yf; rw[QC (p:=p.1) ‹_›]; simp[*]),(by (rw[QcZ (by unfold Yf; rw[QC (p:=p.1) ‹_›]; simp[*]),QC ‹_›]; simp[Kq, *]; done)),(by (exact ⟨XT,XW,by simp⟩)),rfl⟩) ?_
 exact wp [(7,61),(8,59),(9,60)] ⟨rfl,rfl,rfl,(congrArg (fun z_=>some (Ent.box 268 [dI p.1,dB z_])) ((hb28).symm)),rfl,rfl,rfl,trivial⟩
 refine w_ ?_
 refine lgy rfl rfl (Qt (Qa rfl) (QB 45 rfl) rfl) ?_
 refine w_ ?_
 have hb30:(decide (c4=45))=false:=az fun h_=>absurd ((a7 (hb24)).symm.trans h_) (by decide)
 have hb30':=a6 hb30
 try rw[hb30]
 iterate 12 refine w_ ?_
 refine XP (J6 _ ⟨false,ps,cs,as_,(by unfold Yf; rw[QC (p:=p.1) ‹_›]; simp[*]),(by (rw[QgB (by unfold Yf; rw[QC (p:=p.1) ‹_›]; simp[*])]; done)),(by (exact ⟨by omega,by omega,by omega⟩)),rfl⟩) ?_
 exact wp [(7,5),(8,3),(9,4)] ⟨rfl,rfl,rfl,(congrArg (fun z_=>some (Ent.box 268 [dI p.1,dB z_])) ((hb28).symm)),rfl,rfl,rfl,trivial⟩
end Go.Proofs.YtjaadeknhofhpaaGreat
