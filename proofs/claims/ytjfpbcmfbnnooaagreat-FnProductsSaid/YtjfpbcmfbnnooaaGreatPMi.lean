import Derived.Test.YtjfpbcmfbnnooaaGreatPMh
set_option linter.all false
namespace Go.Proofs.YtjfpbcmfbnnooaaGreat
open Go.RowKit Tryz
set_option maxRecDepth 100000
set_option maxHeartbeats 4000000
def QuD {n:Int}{s:BA}(h: -9223372036854775808≤n∧n≤9223372036854775807)(z:s.size≤maxLen):∃l,keyOf prog 59 (.agg #[.int .i64 n,.string s])=some l:=by
 have q:=underlying59
 have v:prog.keyType 59=true:=by kernel_rfl
 have u:prog.cellsOf 59=2:=by kernel_rfl
 have f:prog.cellsOf 3=1:=by kernel_rfl
 have g:prog.cellsOf 9=1:=by kernel_rfl
 have o:prog.types.size+1=(prog.types.size - 1)+1+1:=by
  have:1≤prog.types.size:=by exact aa (by kernel_rfl)
  omega
 have A:(Lit.int .i64 n).wf=true:=by simp[Lit.wf];exact h
 have a:∃r,prog.keyLits (prog.types.size+1) 59 [.int .i64 n,.string s]=some r:=by
  rw[o]
  generalize prog.types.size - 1=d
  simp[Program.keyLits,q,u,f,g,underlying3,underlying9,A,z]
 obtain ⟨r,a⟩:=a
 refine ⟨.string (keyBytes r),?_⟩
 unfold keyOf
 rw[q]
 generalize prog.types.size+1=N at a ⊢
 simp[v,Value.formed,q,u,Value.cells,a]
def QnL:KeyL prog 59 true QM where
 K:=Maps.Keyed.of_law (deep_law (m:=3) (by omega) (by kernel_rfl) (by kernel_rfl) (by rw[underlying59]))
 flat:=rfl
 rd:=fun v x ⟨q,w,a,d⟩=>by
  obtain ⟨n,b⟩:=x
  obtain ⟨l,r,rfl,f,g⟩:=d
  obtain ⟨rfl,h⟩:=f
  obtain ⟨rfl,o⟩:=g
  subst a
  exact QuD h o
def pxG:Nat→List DPs→List (DPs×Int)
 | _,[]=>[]
 | n,p::ps=>(p,(n:Int))::pxG (n+1) ps
def pxM (ps:List DPs):List (DPs×Int):=pxG 0 ps
def prX (c:DSg)(n:DNl):DPr×Bool:=prG c n (601 - 0) 0 ([Xs c n],[],[])
def Vb [∀c,Decidable (SgOk c)][∀n,Decidable (QV n)](c:DSg)(n:DNl)(b:DPs):List DPs×List Int:=if GoP c n∧Wm c n b then (YE c n b n.2.length,X3 c n b n.2.length) else ([],[])
section
variable {c:DSg}{n:DNl}{b y x:DPs}{k i j m:Nat}{ps S S2:List DPs}{F F2 X2 Xf:List DFl}{ix:List (DPs×Int)}{w:Int}{p:DPr}{L:List (DPs×Int)}
def Qyl:YN QM (pxG m ps) x=if x∈ps then some ((m:Int)+(ps.idxOf x:Nat)) else none:=by
 induction ps generalizing m with
 | nil=>rfl
 | cons q ps g=>
  rw[pxG,YN,g]
  by_cases e:q=x
  ·subst e
   rw[if_pos (Y1 QM q),if_pos (aA ..)]
   simp
  ·rw[if_neg (fun h=>e ((Ty.beq_iff QM q x).1 h))]
   have d:(q::ps).idxOf x=ps.idxOf x+1:=by
    simp only[List.idxOf_cons]
    rw[show (q==x)=false by simpa using e]
    simp
   have a:(x∈q::ps)↔x∈ps:=by
    rw[aK]
    exact ⟨fun h=>h.resolve_left fun h=>e h.symm,.inr⟩
   by_cases h:x∈ps
   ·rw[if_pos h,if_pos (a.2 h),d];congr 1;omega
   ·rw[if_neg h,if_neg (fun f=>h (a.1 f))]
def QpX:YN QM (pxM ps) x=if x∈ps then some ((ps.idxOf x:Nat):Int) else none:=by
 have:=Qyl (m:=0) (ps:=ps) (x:=x)
 simpa [pxM] using this
def Qym (h:x∉ps):Wb QM (pxG m ps) x ((m:Int)+ps.length)=pxG m (ps++[x]):=by
 induction ps generalizing m with
 | nil=>simp[pxG,Wb]
 | cons q ps f=>
  have a:¬q=x:=fun e=>h (by rw[e];exact aA ..)
  rw[pxG,Wb,if_neg (fun h=>a ((Ty.beq_iff QM q x).1 h)),cI,pxG,← f fun d=>h (az _ d)]
  rw[show (m:Int)+((q::ps).length:Nat)=((m+1:Nat):Int)+(ps.length:Nat) by rw[av];omega]
def QzF (a:ix=pxM S2)(h:(YN QM ix y).isSome=true):y∈S2∧(YN QM ix y).getD (Ty.zero .int)=((S2.idxOf y:Nat):Int):=by
 subst a
 rw[QpX] at h ⊢
 by_cases e:y∈S2
 ·rw[if_pos e];exact ⟨e,rfl⟩
 ·rw[if_neg e] at h;cases h
def Qvr (a:ix=pxM S2)(h:(YN QM ix y).isSome=false):y∉S2:=fun e=>by
 subst a
 rw[QpX,if_pos e] at h;cases h
def QBu (a:ix=pxM S2)(h:(YN QM ix y).isSome=false):Wb QM ix y (S2.length:Int)=pxM (S2++[y]):=by
 have d:=Qvr a h
 subst a
 have:=Qym (m:=0) d
 simpa [pxM] using this
def Qg2 (d:(YE c n b n.2.length)[i]? =some y)(a:(X3 c n b n.2.length)[i]? =some w):(Vc c n b)[i]? =some (y,w):=by
 unfold Vc;rw[cP];exact ⟨d,a⟩
def QyM:(Vc c n b).length=(YE c n b n.2.length).length:=by
 unfold Vc;rw[dx];have:=(WL (c:=c) (n:=n) (b:=b) (m:=n.2.length)).1;omega
def Qza (f:L[i]? =some (y,w))(a:(S2,F2)=(L.take i).foldl (adB k) (S,F))(h:y∈S2){t:Int}(d:t=((S2.idxOf y:Nat):Int)):(S2,F2++[((k:Int),w,t)])=(L.take (i+1)).foldl (adB k) (S,F):=by
 rw[Qr f,bN,← a,d]
 simp[adB,h]
def QlR (d:L[i]? =some (y,w))(a:(S2,F2)=(L.take i).foldl (adB k) (S,F))(h:y∉S2):(S2++[y],F2++[((k:Int),w,(S2.length:Int))])=(L.take (i+1)).foldl (adB k) (S,F):=by
 rw[Qr d,bN,← a]
 simp[adB,h,List.idxOf_eq_length h]
def QsV (h:(S2,F2)=(L.take i).foldl (adB k) (S,F)):S.length≤S2.length∧S2.length≤S.length+i∧F2.length≤F.length+i∧∃r,S2=S++r:=by
 obtain ⟨⟨r,a⟩,f,l,o,q,d⟩:=Qai (k:Int) (L.take i) (S,F)
 rw[← h] at a f d
 have a:S2=S++r:=a
 have d:S2.length≤S.length+(L.take i).length:=d
 have g:=congrArg List.length f
 simp only[ai,aC] at g
 have u:(L.take i).length≤i:=by rw[au];omega
 refine ⟨by rw[a,ai];omega,by omega,by omega,r,a⟩
def Qt1 (hb:S[k]? =some b)(a:(S2,F2)=((Vc c n b).take i).foldl (adB k) (S,F))(hi:(YE c n b n.2.length).length≤i)(d:X2=Xf++((Xi c n b n.2.length).take j).map fun w=>((k:Int),w,-1))(f:(Xi c n b n.2.length).length≤j):exP c n k (S,F,Xf)=(S2,F2,X2):=by
 rw[aJ (by rw[QyM];exact hi)] at a
 rw[aJ f] at d
 unfold exP
 dsimp only
 rw[QdA hb,← a,d];rfl
def QpY (a:prX c n=prG c n (601 - k) k (S,F,Xf))(d:exP c n k (S,F,Xf)=(S2,F2,X2))(f:k<S.length)(g:S.length≤600)(h:¬(600:Int)<(S2.length:Int)):prX c n=prG c n (601 - (k+1)) (k+1) (S2,F2,X2):=by
 rw[a,Qvn f (by omega),d,if_neg (show¬600<S2.length by omega)]
def QeY (a:prX c n=prG c n (601 - k) k (S,F,Xf))(d:exP c n k (S,F,Xf)=(S2,F2,X2))(f:k<S.length)(g:S.length≤600)(h:(600:Int)<(S2.length:Int)):prX c n=(([],[],[]),false):=by
 rw[a,Qvn f (by omega),d,if_pos (show 600<S2.length by omega)]
def QeX (l:prX c n=prG c n (601 - k) k (S,F,Xf))(hb:S[k]? =some b)(A:S.length≤600)(a:(YE c n b n.2.length)[i]? =some y)(o:(S2,F2)=((Vc c n b).take i).foldl (adB k) (S,F))(h:y∉S2)(C:S2.length=600):prX c n=(([],[],[]),false):=by
 have u:=(ae.1 a).1
 obtain ⟨w,z⟩:∃w,(X3 c n b n.2.length)[i]? =some w:=⟨_,ak (by have:=(WL (c:=c) (n:=n) (b:=b) (m:=n.2.length)).1;omega)⟩
 have d:=Qg2 a z
 have v:=(ae.1 hb).1
 have B:=(ae.1 d).1
 have e:Vc c n b=(Vc c n b).take (i+1)++(Vc c n b).drop (i+1):=(bB _ _).symm
 have q:600<(exP c n k (S,F,Xf)).1.length:=by
  have f:(exP c n k (S,F,Xf)).1=((Vc c n b).foldl (adB (k:Int)) (S,F)).1:=by unfold exP;dsimp only;rw[QdA hb]
  rw[f,e,bN,← QlR d o h]
  obtain ⟨⟨r,g⟩,_⟩:=Qai (k:Int) ((Vc c n b).drop (i+1)) (S2++[y],F2++[((k:Int),w,(S2.length:Int))])
  rw[g]
  simp only[ai,cy];omega
 rw[l,Qvn v (by omega),if_pos q]
def HZ (d:prX c n=prG c n (601 - k) k (S,F,Xf))(f:S.length≤k)(a:k≤600):prX c n=((S,F,Xf),true):=by rw[d,QBq (p:=(S,F,Xf)) f a]
def H0 (h:prX c n=(([],[],[]),false)):[]=(prX c n).1.1∧[]=(prX c n).1.2.1∧[]=(prX c n).1.2.2∧false=(prX c n).2:=by rw[h];exact ⟨rfl,rfl,rfl,rfl⟩
def HV (h:prX c n=((S,F,Xf),true)):S=(prX c n).1.1∧F=(prX c n).1.2.1∧Xf=(prX c n).1.2.2∧true=(prX c n).2:=by rw[h];exact ⟨rfl,rfl,rfl,rfl⟩
def Qvq (f:PrI c n k (S,F,Xf))(d:GoP c n)(hb:S[k]? =some b)(a:exP c n k (S,F,Xf)=(S2,F2,X2)):PrI c n (k+1) (S2,F2,X2):=by
 rw[← a];exact f.step d (ae.1 hb).1
variable [∀c,Decidable (SgOk c)][∀n,Decidable (QV n)]
def Qcz (h:GoP c n):Q3 c n=prX c n:=QpT h
def Qld (h:¬GoP c n):[]=(Q3 c n).1.1∧[]=(Q3 c n).1.2.1∧[]=(Q3 c n).1.2.2∧false=(Q3 c n).2:=by rw[QpU h];exact ⟨rfl,rfl,rfl,rfl⟩
def Qv1 (h:GoP c n):GoP (Zz c n).1 (Zz c n).2.1:=by rw[QdX h];exact h
def QzL (h:GoP c n):(Zz c n).2.2=toM (Zz c n).1:=by rw[QdX h]
def Qsh (h:¬(GoP c n∧Wm c n b)):[]=(Vb c n b).1∧[]=(Vb c n b).2∧false=decide (GoP c n∧Wm c n b):=by unfold Vb;rw[if_neg h,aj h];exact ⟨rfl,rfl,rfl⟩
def QEu (h:GoP c n∧Wm c n b):YE c n b n.2.length=(Vb c n b).1∧X3 c n b n.2.length=(Vb c n b).2∧true=decide (GoP c n∧Wm c n b):=by unfold Vb;rw[if_pos h,ay h];exact ⟨rfl,rfl,rfl⟩
def QBP (h:GoP c n)(a:¬Wm (Zz c n).1 (Zz c n).2.1 b):¬(GoP c n∧Wm c n b):=fun g=>by rw[QdX h] at a;exact a g.2
def QBQ (h:GoP c n)(a:Wm (Zz c n).1 (Zz c n).2.1 b):YE (Zz c n).1 (Zz c n).2.1 b (Zz c n).2.1.2.length=(Vb c n b).1∧X3 (Zz c n).1 (Zz c n).2.1 b (Zz c n).2.1.2.length=(Vb c n b).2∧true=decide (GoP c n∧Wm c n b):=by
 rw[QdX h] at a ⊢;exact QEu ⟨h,a⟩
def Qyf (h:GoP c n):(prX (Zz c n).1 (Zz c n).2.1)=Q3 c n:=by rw[QdX h,Qcz h]
end
def Qbu (c:Yw)(n:Ua)(b:QkE)[∀c,Decidable (SgOk c)][∀n,Decidable (QV n)]:FC prog 26 [(true,[.dat Qj c.1,.dat Qd c.2.1,.dat Qq c.2.2]),(true,[.dat Qj n.1,.dat Zk n.2]),(true,[dI b.1,dS b.2])] [] 0 (Is (PV.tup [(false,[.ref 0]),(false,[.ref 1]),(false,[dB (decide (GoP c n∧Wm c n b))])]) [ar 0 59 QM ((Vb c n b).1),ar 1 3 .int ((Vb c n b).2)]):=by
 refine Ql func26 rfl rfl ntmps26 fun B l A o C z v=>w_ ?_
 refine xbx 0 ?_
 refine xbx 1 ?_
 refine xbx 2 ?_
 refine w7 ?_
 refine lc (dK (W3 c n) Qc6)<|w3 ?_
 refine lc (xal 3 Qv9 Qaw)<|w8 ?_
 cases a:(decide (GoP c n))
 have d:=ab a
 refine w12 ?_
 refine AC.wk (Wk.nilS 4 6 59 QM rfl (Fresh.of rfl) (nlr rfl))<|AC.wk (Wk.nilS 5 7 3 .int rfl (Fresh.of rfl) (nlr rfl))<|w_ ?_
 have q:(false:Bool)=(decide (GoP c n∧Wm c n b)):=by
  exact (Qsh (fun g=>absurd g.1 ‹_›)).2.2
 exact fi_ [(0,4),(1,5)] l ⟨(Qg (by exact (Qsh (fun g=>absurd g.1 ‹_›)).1)),(Qg (by exact (Qsh (fun g=>absurd g.1 ‹_›)).2.1)),trivial⟩ (h0:=by rw[← q] <;> rfl)
 have d:=aa a
 refine w2 ?_
 refine lgy rfl rfl (dK (Jp (Zz c n) b (Qv1 ‹_›)) Qrb)<|w3 ?_
 cases f:(decide (Wm (Zz c n).1 (Zz c n).2.1 b))
 have h:=ab f
 refine w6 ?_
 refine AC.wk (Wk.nilS 6 6 59 QM rfl (Fresh.of rfl) (nlr rfl))<|AC.wk (Wk.nilS 7 7 3 .int rfl (Fresh.of rfl) (nlr rfl))<|w_ ?_
 have r:(false:Bool)=(decide (GoP c n∧Wm c n b)):=by
  exact (Qsh (QBP ‹_› ‹_›)).2.2
 exact fi_ [(0,6),(1,7)] l ⟨(Qg (by exact (Qsh (QBP ‹_› ‹_›)).1)),(Qg (by exact (Qsh (QBP ‹_› ‹_›)).2.1)),trivial⟩ (h0:=by rw[← r] <;> rfl)
 have h:=aa f
 refine w5 ?_
 refine lc (dG 8 (XT (Zz c n) b (Qv1 ‹_›) (QzL ‹_›) ‹_›) QhS)<|w14 ?_
 have u:(true:Bool)=(decide (GoP c n∧Wm c n b)):=by
  exact (QBQ ‹_› ‹_›).2.2
 exact fi_ [(0,8),(1,9)] l ⟨(Qg (by exact (QBQ ‹_› ‹_›).1)),(Qg (by exact (QBQ ‹_› ‹_›).2.1)),trivial⟩ (h0:=by rw[← u] <;> rfl)
def Kw (s:Qmc)(P:GoP s.1 s.2.1)(hT:s.2.2=toM s.1):FC prog 82 [(true,[.dat Qj s.1.1,.dat Qd s.1.2.1,.dat Qq s.1.2.2,.dat Qj s.2.1.1,.dat Zk s.2.1.2,.dat Y2 s.2.2])] [] 0 (Is (PV.tup [(true,[.ref 0,.ref 1,.ref 2]),(false,[dB ((prX s.1 s.2.1).2)])]) [ar 0 59 QM (((prX s.1 s.2.1).1).1),ar 1 68 QI (((prX s.1 s.2.1).1).2.1),ar 2 68 QI (((prX s.1 s.2.1).1).2.2)]):=by
 have b2:=W7 P
 have a7:([((Xs s.1 s.2.1).1,(Xs s.1 s.2.1).2)]:List DPs).length=1:=rfl
 refine Ql func82 rfl rfl ntmps82 fun O_ hO c0 a4 q a6 a5=>w_ ?_
 refine xbx 0 ?_
 refine lc (xal 1 QlA JF)<|w4 ?_
 refine lc (dK (WD s P) QhR)<|lc (dBs 2 (e:=QM) YJ (hab:=by exact ⟨_,_,_,_,rfl,⟨[dI ((Xs s.1 s.2.1).1)],[dS ((Xs s.1 s.2.1).2)],_,_,_,_,rfl,rfl,⟨rfl,rfl⟩,⟨rfl,rfl⟩,rfl⟩,⟨rfl,rfl⟩,rfl⟩))<|lc (Qh QcV ⟨_,_,rfl,(Qm rfl),rfl⟩ (ao.1 rfl) rfl rfl)<|lc (xal 3 QlA JF)<|w3 ?_
 refine lc (QiB (kt:=59) (et:=3) (kb:=true) (k:=QM) (vb:=false) (v:= .int) 4 rfl (Fresh.of rfl) (nlr rfl))<|w3 ?_
 obtain ⟨x1,a1⟩:=gx ([((Xs s.1 s.2.1).1,(Xs s.1 s.2.1).2)]) 0
 have a0:Xs s.1 s.2.1=x1:=bD a1
 refine w_ ?_
 refine lc (Qke QnL QjY (Qa rfl) rfl (Qm rfl) (p:=x1) rfl (Evl.ev (Qn rfl)) (u:=0) rfl)<|w8 ?_
 refine AC.wk (Qo 6 (p:=3) (off:=1) 68 QI rfl rfl (Fresh.of rfl) (nlr rfl))<|AC.wk (Qo 8 (p:=3) (off:=2) 68 QI rfl rfl (Fresh.of rfl) (nlr rfl))<|Qy (fun W X=>∃(k:Nat) (r:List (Int×BA)) (I:List (Int×Int×Int)) (q:List (Int×Int×Int)) (B:List ((Int×BA)×Int)),k≤601∧W=601 - k∧(prX s.1 s.2.1=prG s.1 s.2.1 (601 - k) k (r,I,q))∧(PrI s.1 s.2.1 k (r,I,q))∧(r.length≤600)∧(I.length≤24*k∧q.length≤24*k)∧(B=pxM r)∧X=⟨[(1,lP 0 0),(2,lP 1 0),(4,lP 3 0),(5,lR 10),(6,lI (k:Int))],[bx 0 121 [.dat Qj s.1.1,.dat Qd s.1.2.1,.dat Qq s.1.2.2,.dat Qj s.2.1.1,.dat Zk s.2.1.2,.dat Y2 s.2.2],bx 1 54 [.val (.slice none 0 0),.val (.slice none 0 0),.val (.slice none 0 0)],bx 3 54 [.ref 5,.ref 7,.ref 9],ar 5 59 QM r,ar 7 68 QI I,ar 9 68 QI q,(10,some (.mp true QM false .int B))]⟩) ⟨0,[((Xs s.1 s.2.1).1,(Xs s.1 s.2.1).2)],([]:(ZM:Ty).Den),([]:(ZM:Ty).Den),Wb QM ([]) x1 0,aL _,rfl,rfl,PrI.start P,(show 1≤600 by decide),⟨aL _,aL _⟩,(by rw[← a0];rfl),rfl⟩ ?_ ?_
 exact wp [(5,2),(7,6),(9,8),(10,4)] ⟨rfl,rfl,rfl,(Qg rfl),(Qg rfl),(Qg rfl),(QC2 rfl),trivial⟩
 rintro W X ⟨k,r,I,q,B,b3,b8,A,J,z,hF,hm,rfl⟩
 refine w8 ?_
 cases Q:(decide ((k:Int)<(r.length:Int)))
 have R:=ab Q
 refine w9 ?_
 have e6:(true:Bool)=((prX s.1 s.2.1).2):=by
  exact (HV (HZ A (by omega) (bi J.le z))).2.2.2
 exact fi_ [(0,5),(1,7),(2,9)] hO ⟨(Qg (by exact (HV (HZ A (by omega) (bi J.le z))).1)),(Qg (by exact (HV (HZ A (by omega) (bi J.le z))).2.1)),(Qg (by exact (HV (HZ A (by omega) (bi J.le z))).2.2.1)),trivial⟩ (h0:=by rw[← e6] <;> rfl)
 have R:=aa Q
 refine w4 ?_
 obtain ⟨b,V⟩:=gx r k
 have g:=V
 obtain ⟨b5,b6,b7⟩:=WL (c:=s.1) (n:=s.2.1) (b:=b) (m:=s.2.1.2.length)
 apply dW (i4 33 _ _ _ _ (io 37 (lf (.ept 5 2 k 0))::io 38 (ag [dI b.1,dS b.2])::⟨some 39,PV.tup [(false,[.ref 11]),(false,[.ref 12])],[ar 11 59 QM (YE s.1 s.2.1 b s.2.1.2.length),ar 12 3 .int (X3 s.1 s.2.1 b s.2.1.2.length)]⟩::io 32 _::i2 40 _ _ (i2 7 _ _ []))) [0,1,1,7,1,1,0,0,0,256,512,0]
 refine z4 ?_
 exact zz (fun _ a=>ac (Qw (e:=QM) (a.v rfl) (a.en 5 rfl) (a.v rfl) Qon QdF rfl (by omega) (by first|omega|(simp only[ax];omega))) rfl)<|zz (fun _ a=>ac (UO (e:=QM) (a.v rfl) (a.n 5 rfl) V rfl QdF rfl rfl) rfl)<|zz (fun _ a=>ac (dG 11 (XT s b P hT (J.ok b (ah g))) QhS) rfl)<|y5
 refine w7 ?_
 refine Qy (fun W X=>∃(i:Nat) (f:List (Int×BA)) (h:List (Int×Int×Int)) (d:List ((Int×BA)×Int)),i≤(YE s.1 s.2.1 b s.2.1.2.length).length∧W=(YE s.1 s.2.1 b s.2.1.2.length).length - i∧((f,h)=((Vc s.1 s.2.1 b).take i).foldl (adB (k:Int)) (r,I))∧(d=pxM f)∧(f[k]? =some b)∧X=⟨[(1,lP 0 0),(2,lP 1 0),(4,lP 3 0),(5,lR 15),(6,lI (k:Int)),(8,lR 12),(42,lR 11),(43,lI ((YE s.1 s.2.1 b s.2.1.2.length).length:Int)),(44,lI (i:Int))],[bx 0 121 [.dat Qj s.1.1,.dat Qd s.1.2.1,.dat Qq s.1.2.2,.dat Qj s.2.1.1,.dat Zk s.2.1.2,.dat Y2 s.2.2],bx 1 54 [.val (.slice none 0 0),.val (.slice none 0 0),.val (.slice none 0 0)],bx 3 54 [.ref 13,.ref 14,.ref 9],ar 9 68 QI q,ar 11 59 QM (YE s.1 s.2.1 b s.2.1.2.length),ar 12 3 .int (X3 s.1 s.2.1 b s.2.1.2.length),ar 13 59 QM f,ar 14 68 QI h,(15,some (.mp true QM false .int d))]⟩) ⟨0,r,I,B,aL _,rfl,rfl,hm,g,rfl⟩ ?_ ?_
 exact wo [(13,5),(14,7),(15,10)]
 rintro W X ⟨i,f,h,d,b4,a3,Y,o,l,rfl⟩
 obtain ⟨a8,a9,b0,b1⟩:=QsV Y
 refine w4 ?_
 cases C:(decide ((i:Int)<((YE s.1 s.2.1 b s.2.1.2.length).length:Int)))
 have K:=ab C
 refine w4 ?_
 apply dW (i4 82 _ _ _ _ [io 86 (lf (.ept 13 2 k 0)),io 87 (ag [dI b.1,dS b.2]),⟨some 88,lR 16,[ar 16 3 .int (Xi s.1 s.2.1 b s.2.1.2.length)]⟩,io 89 _,io 90 (lI 0)]) [0,1,1,7,1,1,0,0,255]
 refine z4 ?_
 exact zz (fun _ a=>ac (Qw (e:=QM) (a.v rfl) (a.en 13 rfl) (a.v rfl) Qon QdF rfl (by omega) (by first|omega|(simp only[ax];omega))) rfl)<|zz (fun _ a=>ac (UO (e:=QM) (a.v rfl) (a.n 13 rfl) l rfl QdF rfl rfl) rfl)<|zz (fun _ a=>ac (dO 16 (UG s b P hT (J.ok b (ah g))) Qmg) rfl)<|y2
 refine w_ ?_
 refine lp0 ((Xi s.1 s.2.1 b s.2.1.2.length).length) (fun j=>⟨[(1,lP 0 0),(2,lP 1 0),(4,lP 3 0),(5,lR 15),(6,lI (k:Int)),(88,lR 16),(89,lI ((Xi s.1 s.2.1 b s.2.1.2.length).length:Int)),(90,lI (j:Int))],[bx 0 121 [.dat Qj s.1.1,.dat Qd s.1.2.1,.dat Qq s.1.2.2,.dat Qj s.2.1.1,.dat Zk s.2.1.2,.dat Y2 s.2.2],bx 1 54 [.val (.slice none 0 0),.val (.slice none 0 0),.val (.slice none 0 0)],bx 3 54 [.ref 13,.ref 14,.ref 17],ar 13 59 QM f,ar 14 68 QI h,(15,some (.mp true QM false .int d)),ar 16 3 .int (Xi s.1 s.2.1 b s.2.1.2.length),ar 17 68 QI (q++((Xi s.1 s.2.1 b s.2.1.2.length).take j).map fun w=>((k:Int),w,-1))]⟩) ?_ fun j _=> ?_
 exact wp [(17,9)] ⟨rfl,rfl,rfl,rfl,rfl,rfl,rfl,(Qg ((by simp))),trivial⟩
 have b9:(q++((Xi s.1 s.2.1 b s.2.1.2.length).take j).map fun w=>((k:Int),w,(-1:Int))).length≤24*k+j:=by rw[ai,aC,au];omega
 refine w4 ?_
 cases D:(decide ((j:Int)<((Xi s.1 s.2.1 b s.2.1.2.length).length:Int)))
 have M:=ab D
 refine w3 ?_
 refine Q5 ?_
 have O:=Qt1 (Xf:=q) (X2:=q++((Xi s.1 s.2.1 b s.2.1.2.length).take j).map fun w=>((k:Int),w,(-1:Int))) (j:=j) g Y (by omega) rfl (by omega)
 refine w6 ?_
 cases E:(decide (600<(f.length:Int)))
 have N:=ab E
 refine w7 ?_
 exact Qc<|Zb ⟨k+1,f,h,(q++((Xi s.1 s.2.1 b s.2.1.2.length).take j).map fun w=>((k:Int),w,-1)),d,by omega,rfl,(QpY A O (ae.1 g).1 z ‹_›),(Qvq J P g O),(by omega),⟨by omega,by omega⟩,o,rfl⟩ (by omega)<|wp [(5,13),(7,14),(9,17),(10,15)] ⟨rfl,rfl,rfl,rfl,rfl,(Qg rfl),rfl,trivial⟩
 have N:=aa E
 refine w2 ?_
 refine lc (Qh QcV rfl (ao.1 rfl) rfl rfl)<|w3 ?_
 refine AC.wk (Qo 18 (p:=1) (off:=0) 59 QM rfl rfl (Fresh.of rfl) (nlr rfl))<|AC.wk (Qo 19 (p:=1) (off:=1) 68 QI rfl rfl (Fresh.of rfl) (nlr rfl))<|AC.wk (Qo 20 (p:=1) (off:=2) 68 QI rfl rfl (Fresh.of rfl) (nlr rfl))<|w_ ?_
 have Z:(false:Bool)=((prX s.1 s.2.1).2):=by
  exact (H0 (QeY A O (ae.1 g).1 z ‹_›)).2.2.2
 exact fi_ [(0,18),(1,19),(2,20)] hO ⟨(Qg (by exact (H0 (QeY A O (ae.1 g).1 z ‹_›)).1)),(Qg (by exact (H0 (QeY A O (ae.1 g).1 z ‹_›)).2.1)),(Qg (by exact (H0 (QeY A O (ae.1 g).1 z ‹_›)).2.2.1)),trivial⟩ (h0:=by rw[← Z] <;> rfl)
 have M:=aa D
 refine w6 ?_
 obtain ⟨xw,T⟩:=gx (Xi s.1 s.2.1 b s.2.1.2.length) j
 refine w8 ?_
 refine lc (Qh QcX ⟨_,_,rfl,(Qm rfl),⟨_,_,rfl,(Qm rfl),⟨_,_,rfl,(Evl.ev (Qn rfl)),rfl⟩⟩⟩ (ao.1 rfl) rfl rfl)<|lc (dBs 21 (e:=QI) VM (hab:=by exact ⟨_,_,_,_,rfl,⟨[dI (k:Int)],[dI xw,dI (-1)],_,_,_,_,rfl,rfl,⟨rfl,rfl⟩,⟨[dI xw],[dI (-1)],_,_,_,_,rfl,rfl,⟨rfl,rfl⟩,⟨rfl,rfl⟩,rfl⟩,rfl⟩,⟨rfl,rfl⟩,rfl⟩))<|lc (dA 22 Qa9)<|w2 ?_
 refine Qc<|w4 ?_
 exact Qc<|l0_<|wp [(17,22)] ⟨rfl,rfl,rfl,rfl,rfl,rfl,rfl,(Qg ((by rw[Qr T,aT,aM];rfl))),trivial⟩
 have K:=aa C
 refine w7 ?_
 obtain ⟨y,U⟩:=gx (YE s.1 s.2.1 b s.2.1.2.length) i
 have hy:=U
 refine w_ ?_
 refine lc (xal 23 QM YJ)<|w6 ?_
 refine lc (Qhh QnL QjY QE0 (Qa rfl) rfl (Qm rfl) (p:=y) rfl rfl rfl)<|w11 ?_
 cases a2:((YN QM d y).isSome)
 refine w11 ?_
 refine lc (Qff QnL QjY (Qa rfl) rfl (Qm rfl) (p:=y) rfl (Qm rfl) (u:=(f.length:Int)) rfl)<|w5 ?_
 refine lc (dBs 24 (e:=QM) YJ (hab:=by exact ⟨_,_,_,_,rfl,⟨[dI y.1],[dS y.2],_,_,_,_,rfl,rfl,⟨rfl,rfl⟩,⟨rfl,rfl⟩,rfl⟩,⟨rfl,rfl⟩,rfl⟩))<|lc (dA 25 Qfy)<|w3 ?_
 obtain ⟨w,G⟩:=gx (X3 s.1 s.2.1 b s.2.1.2.length) i
 have hw:=G
 apply dV (i5 69 _ _ _ _ _ [io 74 (lf (.ept 12 1 i 0)),io 75 (lI w),io 76 _,io 77 (ag [dI (k:Int),dI w,dI (f.length:Int)]),⟨some 78,lR 26,[ar 26 68 QI ([((k:Int),w,(f.length:Int))])]⟩,⟨some 79,lR 27,[ar 27 68 QI (h++([((k:Int),w,(f.length:Int))])),(14,none),(26,none)]⟩,io 80 _,⟨none,lf (.val undef),[bx 3 54 [.ref 25,.ref 27,.ref 9]]⟩]) [0,0,3,7,15,7,7,127,3,3,0,0,0]
 refine z5 ?_
 refine zz (fun _ a=>ac (Qw (e:= .int) (a.v rfl) (a.en 12 rfl) (a.v rfl) ZX Zv rfl (by omega) (by first|omega|(simp only[ax];omega))) rfl)<|zz (fun _ a=>ac (ZE (e:= .int) (a.v rfl) (a.n 12 rfl) G rfl Zv rfl rfl) rfl)<|z_ ?_
 refine zz (fun _ a=>ac (Qh QcX ⟨_,_,rfl,(a.w rfl),⟨_,_,rfl,(a.w rfl),⟨_,_,rfl,(a.w rfl),rfl⟩⟩⟩ (ao.1 rfl) rfl rfl) rfl)<|zz (fun _ a=>ac (dBs 26 (e:=QI) VM (hab:=by exact ⟨_,_,_,_,rfl,⟨[dI (k:Int)],[dI w,dI (f.length:Int)],_,_,_,_,rfl,rfl,⟨rfl,rfl⟩,⟨[dI w],[dI (f.length:Int)],_,_,_,_,rfl,rfl,⟨rfl,rfl⟩,⟨rfl,rfl⟩,rfl⟩,rfl⟩,⟨rfl,rfl⟩,rfl⟩)) rfl)<|zz (fun _ a=>ac (dA 27 Qa9) rfl)<|z_ ?_
 exact zz (fun _ a=>ac (QR (a.v rfl) (a.en 3 rfl) (a.w rfl) (by simp only[QH,Xh,aV,bo];rw[(a.en 27 rfl)];rfl) QjU rfl) rfl)<|zN
 refine w4 ?_
 exact Qc<|Zb ⟨i+1,(f++([(y.1,y.2)])),(h++([((k:Int),w,(f.length:Int))])),(Wb QM d y (f.length:Int)),by omega,rfl,(by exact QlR (Qg2 hy hw) Y (Qvr o ‹_›)),(by exact QBu o ‹_›),(by (rw[bm (ae.1 l).1];exact l)),rfl⟩ (by omega)<|wp [(13,25),(14,27)] ⟨rfl,rfl,rfl,rfl,rfl,rfl,(Qg rfl),(Qg rfl),(QC2 rfl),trivial⟩
 refine w2 ?_
 obtain ⟨w,H⟩:=gx (X3 s.1 s.2.1 b s.2.1.2.length) i
 have hw:=H
 apply dV (i5 69 _ _ _ _ _ [io 74 (lf (.ept 12 1 i 0)),io 75 (lI w),io 76 _,io 77 (ag [dI (k:Int),dI w,dI ((YN QM d y).getD (Ty.zero .int))]),⟨some 78,lR 28,[ar 28 68 QI ([((k:Int),w,(YN QM d y).getD (Ty.zero .int))])]⟩,⟨some 79,lR 29,[ar 29 68 QI (h++([((k:Int),w,(YN QM d y).getD (Ty.zero .int))])),(14,none),(28,none)]⟩,io 80 _,⟨none,lf (.val undef),[bx 3 54 [.ref 13,.ref 29,.ref 9]]⟩]) [0,0,3,7,15,7,7,127,3,3,0,0,0]
 refine z5 ?_
 refine zz (fun _ a=>ac (Qw (e:= .int) (a.v rfl) (a.en 12 rfl) (a.v rfl) ZX Zv rfl (by omega) (by first|omega|(simp only[ax];omega))) rfl)<|zz (fun _ a=>ac (ZE (e:= .int) (a.v rfl) (a.n 12 rfl) H rfl Zv rfl rfl) rfl)<|z_ ?_
 refine zz (fun _ a=>ac (Qh QcX ⟨_,_,rfl,(a.w rfl),⟨_,_,rfl,(a.w rfl),⟨_,_,rfl,(a.w rfl),rfl⟩⟩⟩ (ao.1 rfl) rfl rfl) rfl)<|zz (fun _ a=>ac (dBs 28 (e:=QI) VM (hab:=by exact ⟨_,_,_,_,rfl,⟨[dI (k:Int)],[dI w,dI ((YN QM d y).getD (Ty.zero .int))],_,_,_,_,rfl,rfl,⟨rfl,rfl⟩,⟨[dI w],[dI ((YN QM d y).getD (Ty.zero .int))],_,_,_,_,rfl,rfl,⟨rfl,rfl⟩,⟨rfl,rfl⟩,rfl⟩,rfl⟩,⟨rfl,rfl⟩,rfl⟩)) rfl)<|zz (fun _ a=>ac (dA 29 Qa9) rfl)<|z_ ?_
 exact zz (fun _ a=>ac (QR (a.v rfl) (a.en 3 rfl) (a.w rfl) (by simp only[QH,Xh,aV,bo];rw[(a.en 29 rfl)];rfl) QjU rfl) rfl)<|zN
 refine w4 ?_
 exact Qc<|Zb ⟨i+1,f,(h++([((k:Int),w,(YN QM d y).getD (Ty.zero .int))])),d,by omega,rfl,(by exact Qza (Qg2 hy hw) Y (QzF o ‹_›).1 (QzF o ‹_›).2),(by exact o),(by exact l),rfl⟩ (by omega)<|wp [(14,29)] ⟨rfl,rfl,rfl,rfl,rfl,rfl,rfl,(Qg rfl),rfl,trivial⟩
def Qd6 (c:Yw)(n:Ua)[∀c,Decidable (SgOk c)][∀n,Decidable (QV n)]:FC prog 22 [(true,[.dat Qj c.1,.dat Qd c.2.1,.dat Qq c.2.2]),(true,[.dat Qj n.1,.dat Zk n.2])] [] 0 (Is (PV.tup [(true,[.ref 0,.ref 1,.ref 2]),(false,[dB ((Q3 c n).2)])]) [ar 0 59 QM (((Q3 c n).1).1),ar 1 68 QI (((Q3 c n).1).2.1),ar 2 68 QI (((Q3 c n).1).2.2)]):=by
 refine Ql func22 rfl rfl ntmps22 fun u f r g v q o=>w_ ?_
 refine xbx 0 ?_
 refine xbx 1 ?_
 refine lc (xal 2 QlA JF)<|w5 ?_
 refine lc (dK (W3 c n) Qc6)<|w3 ?_
 refine lc (xal 3 Qv9 Qaw)<|w8 ?_
 cases a:(decide (GoP c n))
 have d:=ab a
 refine w2 ?_
 refine lc (Qh QcV rfl (ao.1 rfl) rfl rfl)<|w3 ?_
 refine AC.wk (Qo 4 (p:=2) (off:=0) 59 QM rfl rfl (Fresh.of rfl) (nlr rfl))<|AC.wk (Qo 5 (p:=2) (off:=1) 68 QI rfl rfl (Fresh.of rfl) (nlr rfl))<|AC.wk (Qo 6 (p:=2) (off:=2) 68 QI rfl rfl (Fresh.of rfl) (nlr rfl))<|w_ ?_
 have h:(false:Bool)=((Q3 c n).2):=by
  exact (Qld ‹_›).2.2.2
 exact fi_ [(0,4),(1,5),(2,6)] f ⟨(Qg (by exact (Qld ‹_›).1)),(Qg (by exact (Qld ‹_›).2.1)),(Qg (by exact (Qld ‹_›).2.2.1)),trivial⟩ (h0:=by rw[← h] <;> rfl)
 have d:=aa a
 refine w4 ?_
 refine lc (dG 7 (Kw (Zz c n) (Qv1 ‹_›) (QzL ‹_›)) Qq9)<|w6 ?_
 have l:((prX (Zz c n).1 (Zz c n).2.1).2:Bool)=((Q3 c n).2):=by
  (rw[Qyf ‹_›])
 exact fi_ [(0,7),(1,8),(2,9)] f ⟨(Qg (by (rw[Qyf ‹_›]))),(Qg (by (rw[Qyf ‹_›]))),(Qg (by (rw[Qyf ‹_›]))),trivial⟩ (h0:=by rw[l] <;> rfl)
def Qhm (c:Yw)(s:Int)(g:Int):FC prog 185 [(true,[.dat Qj c.1,.dat Qd c.2.1,.dat Qq c.2.2]),(false,[dI s]),(false,[dI g])] [] 0 (QJ (lI (toF c s g))):=by
 refine Ql func185 rfl rfl ntmps185 fun E u D z G B A=>w_ ?_
 refine xbx 0 ?_
 refine w6 ?_
 refine alL 10 fun _=> ?_
 refine w4 ?_
 refine lpK c.2.2.length (fun k=>∀j,j<k→∀x,c.2.2[j]? =some x→arB s g x=false) (fun k=>⟨[(1,lI s),(2,lI g),(10,lf (.dat Qq c.2.2)),(11,lI (c.2.2.length:Int)),(12,lI (k:Int))],[]⟩) ((fun j C=>absurd C (aS j))) ?_ fun k _ a=> ?_
 exact wo []
 refine w4 ?_
 cases l:(decide ((k:Int)<(c.2.2.length:Int)))
 have o:=ab l
 refine w7 ?_
 refine fqI u ?_
 first|exact QEz a (by omega)
 have o:=aa l
 refine w5 ?_
 obtain ⟨v,h⟩:=gx c.2.2 k
 refine w2 ?_
 refine lc (xal 1 Yi Yp)<|w8 ?_
 cases q:(decide (v.1=s))
 have r:=ab q
 refine w12 ?_
 exact Qc<|lK_ ((Z5 a h (by first|exact QlV ‹_› | exact QlW ‹_›)))<|wo []
 have r:=aa q
 refine w6 ?_
 cases d:(decide (v.2.1=g))
 have f:=ab d
 refine w6 ?_
 exact Qc<|lK_ ((Z5 a h (by first|exact QlV ‹_› | exact QlW ‹_›)))<|wo []
 have f:=aa d
 refine w7 ?_
 exact fqI u<|QEy a h ‹_› ‹_›
def KG (v:BA)(k:Int)(z:0≤k∧k<(v.size:Int))(A:v.size≤1000):FC prog 187 [(false,[dS v]),(false,[dI k])] [] 0 (QJ (lf (dS (QbG v k)))):=by
 refine Ql func187 rfl rfl ntmps187 fun q h o d r g f=>acI 1 fun _=>w8 ?_
 obtain ⟨u,a⟩:=gs v ((k).toNat)
 have l:=QU a
 refine w_ ?_
 refine lc (Zf (Qa rfl) (QS 48 rfl) rfl)<|lc (dK (Yu (decide (u=48))) XE)<|lc (dK (Xk v k (Z0 (decide (u=48))) (by omega) ⟨by omega,by rw[ZV];decide⟩) W0)<|w3 ?_
 refine fqS h ?_
 (unfold QbG;rw[l])
def Qej (l:List (Int×BA))(b:QkE):FC prog 159 [(false,[.dat Xz l]),(true,[dI b.1,dS b.2])] [] 0 (QJ (lI (HM l b))):=by
 refine Ql func159 rfl rfl ntmps159 fun B h A r C v u=>w_ ?_
 refine xbx 0 ?_
 refine w5 ?_
 refine alL 7 fun _=> ?_
 refine w4 ?_
 refine lpK l.length (fun k=>b∉l.take k) (fun k=>⟨[(3,lP 0 0),(7,lf (.dat Xz l)),(8,lI (l.length:Int)),(9,lI (k:Int))],[bx 0 59 [dI b.1,dS b.2]]⟩) ((by simp)) ?_ fun k _ a=> ?_
 exact wo []
 refine w4 ?_
 cases d:(decide ((k:Int)<(l.length:Int)))
 have f:=ab d
 refine w7 ?_
 exact fqI h<|QAx a (by omega)
 have f:=aa d
 refine w6 ?_
 obtain ⟨x,g⟩:=gx l k
 have o:=g
 refine w2 ?_
 refine lc (xal 1 QM YJ)<|w6 ?_
 refine lc (H9 Qf7 Qf5 (Qm rfl) (Qm rfl) (p:=x) (q:=b) rfl rfl rfl)<|w_ ?_
 cases z:(Ty.beq QM x b)
 refine w6 ?_
 exact Qc<|lK_ ((QC8 a o (QlZ ‹_›)))<|wo []
 refine w6 ?_
 exact fqI h<|QAw a o ((Ty.beq_iff _ _ _).1 ‹_›)
section
variable {c:DSg}{n:DNl}{b:DPs}{k:Nat}{t:Int}{e s i:Bool}
def Qi2 (f:k<n.2.length):(k:Int)∈Ur n b.2 n.2.length↔exW n b.2 (k:Int)=true:=by
 unfold Ur
 constructor
 ·intro g
  obtain ⟨j,d,e⟩:=aW.1 g
  have a:=(bA.1 d).2
  rw[e] at a;exact a
 ·intro h
  exact aW.2 ⟨k,bA.2 ⟨bC.2 f,h⟩,rfl⟩
def QBd (hi:i=inW n k)(f:k<n.2.length)(d:i=false)(a:¬(k:Int)∈Ur n b.2 n.2.length):flB c n b k=false∧xtB c n b k=false:=by
 rw[Qi2 f,Bool.not_eq_true] at a
 unfold flB xtB
 rw[← hi,d,a];exact ⟨rfl,rfl⟩
def Qu8 (hi:i=inW n k)(a:i=true)(d:tW c n b k=t)(h0:0≤t):flB c n b k=true∧xtB c n b k=false:=by
 unfold flB xtB
 rw[← hi,a,d,ay h0,aj (show¬t<0 by omega),dJ];exact ⟨rfl,rfl⟩
def Qu9 (d:k<n.2.length)(a:(k:Int)∈Ur n b.2 n.2.length)(f:tW c n b k=t)(h0:0≤t):flB c n b k=true∧xtB c n b k=false:=by
 rw[Qi2 d] at a
 unfold flB xtB
 rw[a,f,ay h0,aj (show¬t<0 by omega),dJ,Bool.or_true];exact ⟨rfl,rfl⟩
def QBe (hi:i=inW n k)(f:k<n.2.length)(d:i=false)(a:(k:Int)∈Ur n b.2 n.2.length)(g:tW c n b k=t)(h0:¬0≤t):flB c n b k=false∧xtB c n b k=true:=by
 rw[Qi2 f] at a
 unfold flB xtB
 rw[← hi,d,a,g,aj h0,ay (show t<0 by omega)];exact ⟨rfl,rfl⟩
def QBc (hi:i=inW n k)(a:i=true)(d:tW c n b k=t)(h0:¬0≤t):flB c n b k=false∧xtB c n b k=false:=by
 unfold flB xtB
 rw[← hi,a,d,aj h0,dJ];exact ⟨rfl,rfl⟩
def QvZ (a:tW c n b k=t)(h:flB c n b k=true):YE c n b k++[(t,QbG b.2 (k:Int))]=YE c n b (k+1):=by rw[← a];exact Qg1 h
end
def Qek (c:Yw)(n:Ua)(b:QkE)(H:GoP c n)(G:Wm c n b):FC prog 116 [(true,[.dat Qj c.1,.dat Qd c.2.1,.dat Qq c.2.2]),(true,[.dat Qj n.1,.dat Zk n.2]),(true,[dI b.1,dS b.2])] [] 0 (Is (PV.tup [(false,[.ref 0]),(false,[.ref 1]),(false,[.ref 2])]) [ar 0 59 QM (YE c n b n.2.length),ar 1 3 .int (X3 c n b n.2.length),ar 2 3 .int (Xi c n b n.2.length)]):=by
 have Q:=W7 H
 have P:=G.2.1.2
 refine Ql func116 rfl rfl ntmps116 fun W N V J X M K=>w_ ?_
 refine xbx 0 ?_
 refine xbx 1 ?_
 refine xbx 2 ?_
 refine w15 ?_
 refine lc (dO 3 (Qbz n b.2 H.2.1 G.2.1) Qmf)<|w10 ?_
 refine AC.wk (Wk.nilS 4 9 59 QM rfl (Fresh.of rfl) (nlr rfl))<|AC.wk (Wk.nilS 6 10 3 .int rfl (Fresh.of rfl) (nlr rfl))<|AC.wk (Wk.nilS 8 11 3 .int rfl (Fresh.of rfl) (nlr rfl))<|lp0 n.2.length (fun k=>⟨[(3,lP 0 0),(4,lP 1 0),(5,lP 2 0),(6,lf (.val (.slice none 0 0))),(7,lf (.val (.slice none 0 0))),(8,lf (.val (.slice none 0 0))),(9,lR 5),(10,lR 7),(11,lR 9),(12,lR 3),(23,lI (n.2.length:Int)),(24,lI (k:Int))],[bx 0 28 [.dat Qj c.1,.dat Qd c.2.1,.dat Qq c.2.2],bx 1 48 [.dat Qj n.1,.dat Zk n.2],bx 2 59 [dI b.1,dS b.2],ar 3 3 .int (Ur n b.2 n.2.length),ar 5 59 QM (YE c n b k),ar 7 3 .int (X3 c n b k),ar 9 3 .int (Xi c n b k)]⟩) ?_ fun k _=> ?_
 exact wp [(5,4),(7,6),(9,8)] ⟨rfl,rfl,rfl,rfl,(Qg (rfl)),(Qg (rfl)),(Qg (rfl)),trivial⟩
 obtain ⟨R,T,U⟩:=WL (c:=c) (n:=n) (b:=b) (m:=k)
 refine w4 ?_
 cases l:(decide ((k:Int)<(n.2.length:Int)))
 have o:=ab l
 refine w12 ?_
 exact fi_ [(0,5),(1,7),(2,9)] N ⟨(Qg (by (congr 1;omega))),(Qg (by (congr 1;omega))),(Qg (by (congr 1;omega))),trivial⟩
 have o:=aa l
 refine w8 ?_
 refine QsA (fun I=>∃(h:Int) (C:Bool),(tW c n b k=h)∧(C=inW n k)∧I=⟨[(3,lP 0 0),(4,lP 1 0),(5,lP 2 0),(6,lf (.val (.slice none 0 0))),(7,lf (.val (.slice none 0 0))),(8,lf (.val (.slice none 0 0))),(9,lR 5),(10,lR 7),(11,lR 9),(12,lR 3),(13,lI (k:Int)),(15,lI h),(16,lB C),(23,lI (n.2.length:Int)),(24,lI (k:Int))],[bx 0 28 [.dat Qj c.1,.dat Qd c.2.1,.dat Qq c.2.2],bx 1 48 [.dat Qj n.1,.dat Zk n.2],bx 2 59 [dI b.1,dS b.2],ar 3 3 .int (Ur n b.2 n.2.length),ar 5 59 QM (YE c n b k),ar 7 3 .int (X3 c n b k),ar 9 3 .int (Xi c n b k)]⟩) ?_ fun E=> ?_
 rintro I ⟨h,C,a,d,rfl⟩
 refine w5 ?_
 cases O:(C)
 refine w2 ?_
 refine lgy rfl rfl (dB_ (X9 (Ur n b.2 n.2.length) (k:Int)) Uc)<|w4 ?_
 cases q:(decide ((k:Int)∈(Ur n b.2 n.2.length)))
 have r:=ab q
 refine w6 ?_
 exact Qc<|l0_<|wp [] ⟨rfl,rfl,rfl,rfl,(Qg (by exact QbN (QBd d (by omega) ‹_› ‹_›).1)),(Qg (by exact QbO (QBd d (by omega) ‹_› ‹_›).1)),(Qg (by exact XL (QBd d (by omega) ‹_› ‹_›).2)),trivial⟩
 have r:=aa q
 refine w6 ?_
 cases u:(decide (0≤h))
 have v:=ab u
 refine w10 ?_
 refine lc (dBs 10 (e:= .int) Ye)<|lc (dA 11 Xg)<|w_ ?_
 refine Qc<|w4 ?_
 exact Qc<|l0_<|wp [(9,11)] ⟨rfl,rfl,rfl,rfl,(Qg (by exact QbN (QBe d (by omega) ‹_› ‹_› a ‹_›).1)),(Qg (by exact QbO (QBe d (by omega) ‹_› ‹_› a ‹_›).1)),(Qg (by exact Qhc (QBe d (by omega) ‹_› ‹_› a ‹_›).2)),trivial⟩
 have v:=aa u
 refine w7 ?_
 refine lc (dK (KG b.2 (k:Int) (by omega) (by omega)) QfK)<|lc (Qh QcW ⟨_,_,rfl,(Qm rfl),⟨_,_,rfl,(Qm rfl),rfl⟩⟩ (ao.1 rfl) rfl rfl)<|lc (dBs 12 (e:=QM) YJ (hab:=by exact ⟨_,_,_,_,rfl,⟨[dI h],[dS (QbG b.2 (k:Int))],_,_,_,_,rfl,rfl,⟨rfl,rfl⟩,⟨rfl,rfl⟩,rfl⟩,⟨rfl,rfl⟩,rfl⟩))<|lc (dA 13 Qfy)<|w5 ?_
 refine lc (dBs 14 (e:= .int) Ye)<|lc (dA 15 Xg)<|w_ ?_
 refine Qc<|w4 ?_
 exact Qc<|l0_<|wp [(5,13),(7,15)] ⟨rfl,rfl,rfl,rfl,(Qg (by exact QvZ a (Qu9 (by omega) ‹_› a ‹_›).1)),(Qg (by exact QdB (Qu9 (by omega) ‹_› a ‹_›).1)),(Qg (by exact XL (Qu9 (by omega) ‹_› a ‹_›).2)),trivial⟩
 refine w13 ?_
 cases z:(decide (0≤h))
 have A:=ab z
 refine w12 ?_
 exact Qc<|l0_<|wp [] ⟨rfl,rfl,rfl,rfl,(Qg (by exact QbN (QBc d ‹_› a ‹_›).1)),(Qg (by exact QbO (QBc d ‹_› a ‹_›).1)),(Qg (by exact XL (QBc d ‹_› a ‹_›).2)),trivial⟩
 have A:=aa z
 refine w7 ?_
 refine lc (dK (KG b.2 (k:Int) (by omega) (by omega)) QfK)<|lc (Qh QcW ⟨_,_,rfl,(Qm rfl),⟨_,_,rfl,(Qm rfl),rfl⟩⟩ (ao.1 rfl) rfl rfl)<|lc (dBs 16 (e:=QM) YJ (hab:=by exact ⟨_,_,_,_,rfl,⟨[dI h],[dS (QbG b.2 (k:Int))],_,_,_,_,rfl,rfl,⟨rfl,rfl⟩,⟨rfl,rfl⟩,rfl⟩,⟨rfl,rfl⟩,rfl⟩))<|lc (dA 17 Qfy)<|w5 ?_
 refine lc (dBs 18 (e:= .int) Ye)<|lc (dA 19 Xg)<|w_ ?_
 refine Qc<|w4 ?_
 exact Qc<|l0_<|wp [(5,17),(7,19)] ⟨rfl,rfl,rfl,rfl,(Qg (by exact QvZ a (Qu8 d ‹_› a ‹_›).1)),(Qg (by exact QdB (Qu8 d ‹_› a ‹_›).1)),(Qg (by exact XL (Qu8 d ‹_› a ‹_›).2)),trivial⟩
 refine w16 ?_
 refine w_ ?_
 cases f:(decide ((k:Int)<(n.1.length:Int)))
 have g:=ab f
 refine w15 ?_
 exact Yf (E _ ⟨b.1,false,(by exact QdD (by omega)),(by exact (Qur (by omega)).symm),rfl⟩)<|wo []
 have g:=aa f
 refine w6 ?_
 refine lc (dK (Qhm c b.1 (k:Int)) QmM)<|w8 ?_
 obtain ⟨sg,B⟩:=gx n.1 k
 have D:=B
 refine w7 ?_
 exact Yf (E _ ⟨(toF c b.1 (k:Int)),(decide (sg.2=1)),(by exact Jz (by omega)),(by exact Quu D),rfl⟩)<|wo []
def QbB (c:Yw)(n:Ua)(M:GoP c n):FC prog 84 [(true,[.dat Qj c.1,.dat Qd c.2.1,.dat Qq c.2.2]),(true,[.dat Qj n.1,.dat Zk n.2])] [] 0 (Is (PV.tup [(true,[.ref 0,.ref 1,.ref 2]),(false,[dB ((prX c n).2)])]) [ar 0 59 QM (((prX c n).1).1),ar 1 68 QI (((prX c n).1).2.1),ar 2 68 QI (((prX c n).1).2.2)]):=by
 have a7:=W7 M
 refine Ql func84 rfl rfl ntmps84 fun O_ hO b6 a0 l a2 a1=>w_ ?_
 refine xbx 0 ?_
 refine xbx 1 ?_
 refine lc (xal 2 QlA JF)<|w5 ?_
 refine lc (dK (KF c n M) QhT)<|lc (dBs 3 (e:=QM) YJ (hab:=by exact ⟨_,_,_,_,rfl,⟨[dI ((Xs c n).1)],[dS ((Xs c n).2)],_,_,_,_,rfl,rfl,⟨rfl,rfl⟩,⟨rfl,rfl⟩,rfl⟩,⟨rfl,rfl⟩,rfl⟩))<|lc (Qh QcV ⟨_,_,rfl,(Qm rfl),rfl⟩ (ao.1 rfl) rfl rfl)<|lc (xal 4 QlA JF)<|w7 ?_
 refine AC.wk (Qo 6 (p:=4) (off:=1) 68 QI rfl rfl (Fresh.of rfl) (nlr rfl))<|AC.wk (Qo 8 (p:=4) (off:=2) 68 QI rfl rfl (Fresh.of rfl) (nlr rfl))<|Qy (fun V W=>∃(k:Nat) (q:List (Int×BA)) (E:List (Int×Int×Int)) (l:List (Int×Int×Int)),k≤601∧V=601 - k∧(prX c n=prG c n (601 - k) k (q,E,l))∧(PrI c n k (q,E,l))∧(q.length≤600)∧(E.length≤24*k∧l.length≤24*k)∧W=⟨[(2,lP 0 0),(3,lP 1 0),(4,lP 2 0),(6,lP 4 0),(7,lI (k:Int))],[bx 0 28 [.dat Qj c.1,.dat Qd c.2.1,.dat Qq c.2.2],bx 1 48 [.dat Qj n.1,.dat Zk n.2],bx 2 54 [.val (.slice none 0 0),.val (.slice none 0 0),.val (.slice none 0 0)],bx 4 54 [.ref 5,.ref 7,.ref 9],ar 5 59 QM q,ar 7 68 QI E,ar 9 68 QI l]⟩) ⟨0,[((Xs c n).1,(Xs c n).2)],([]:(ZM:Ty).Den),([]:(ZM:Ty).Den),aL _,rfl,rfl,PrI.start M,(show 1≤600 by decide),⟨aL _,aL _⟩,rfl⟩ ?_ ?_
 exact wp [(5,3),(7,6),(9,8)] ⟨rfl,rfl,rfl,rfl,(Qg rfl),(Qg rfl),(Qg rfl),trivial⟩
 rintro V W ⟨k,q,E,l,a8,b3,r,J,o,hF,rfl⟩
 refine w8 ?_
 cases N:(decide ((k:Int)<(q.length:Int)))
 have O:=ab N
 refine w9 ?_
 have e4:(true:Bool)=((prX c n).2):=by
  exact (HV (HZ r (by omega) (bi J.le o))).2.2.2
 exact fi_ [(0,5),(1,7),(2,9)] hO ⟨(Qg (by exact (HV (HZ r (by omega) (bi J.le o))).1)),(Qg (by exact (HV (HZ r (by omega) (bi J.le o))).2.1)),(Qg (by exact (HV (HZ r (by omega) (bi J.le o))).2.2.1)),trivial⟩ (h0:=by rw[← e4] <;> rfl)
 have O:=aa N
 refine w4 ?_
 obtain ⟨b,U⟩:=gx q k
 have f:=U
 obtain ⟨b0,b1,b2⟩:=WL (c:=c) (n:=n) (b:=b) (m:=n.2.length)
 apply dW (i5 29 _ _ _ _ _ (io 34 (lf (.ept 5 2 k 0))::io 35 (ag [dI b.1,dS b.2])::⟨some 36,PV.tup [(false,[.ref 10]),(false,[.ref 11]),(false,[.ref 12])],[ar 10 59 QM (YE c n b n.2.length),ar 11 3 .int (X3 c n b n.2.length),ar 12 3 .int (Xi c n b n.2.length)]⟩::io 28 _::i3 37 _ _ _ (i3 8 _ _ _ []))) [0,1,3,3,15,3,3,0,0,0,512,1536,3072,2048,0]
 refine z5 ?_
 exact zz (fun _ d=>ac (Qw (e:=QM) (d.v rfl) (d.en 5 rfl) (d.v rfl) Qon QdF rfl (by omega) (by first|omega|(simp only[ax];omega))) rfl)<|zz (fun _ d=>ac (UO (e:=QM) (d.v rfl) (d.n 5 rfl) U rfl QdF rfl rfl) rfl)<|zz (fun _ d=>ac (dG 10 (Qek c n b M (J.ok b (ah f))) Qmh) rfl)<|y7
 refine w7 ?_
 refine Qy (fun V W=>∃(i:Nat) (a:List (Int×BA)) (g:List (Int×Int×Int)),i≤(YE c n b n.2.length).length∧V=(YE c n b n.2.length).length - i∧((a,g)=((Vc c n b).take i).foldl (adB (k:Int)) (q,E))∧(a[k]? =some b)∧(a.length≤600)∧W=⟨[(2,lP 0 0),(3,lP 1 0),(4,lP 2 0),(6,lP 4 0),(7,lI (k:Int)),(9,lR 11),(10,lR 12),(40,lR 10),(41,lI ((YE c n b n.2.length).length:Int)),(42,lI (i:Int))],[bx 0 28 [.dat Qj c.1,.dat Qd c.2.1,.dat Qq c.2.2],bx 1 48 [.dat Qj n.1,.dat Zk n.2],bx 2 54 [.val (.slice none 0 0),.val (.slice none 0 0),.val (.slice none 0 0)],bx 4 54 [.ref 13,.ref 14,.ref 9],ar 9 68 QI l,ar 10 59 QM (YE c n b n.2.length),ar 11 3 .int (X3 c n b n.2.length),ar 12 3 .int (Xi c n b n.2.length),ar 13 59 QM a,ar 14 68 QI g]⟩) ⟨0,q,E,aL _,rfl,rfl,f,o,rfl⟩ ?_ ?_
 exact wo [(13,5),(14,7)]
 rintro V W ⟨i,a,g,a9,b4,u,h,Y,rfl⟩
 obtain ⟨a3,a4,a5,a6⟩:=QsV u
 refine w4 ?_
 cases P:(decide ((i:Int)<((YE c n b n.2.length).length:Int)))
 have Q:=ab P
 refine w9 ?_
 refine lp0 ((Xi c n b n.2.length).length) (fun j=>⟨[(2,lP 0 0),(3,lP 1 0),(4,lP 2 0),(6,lP 4 0),(7,lI (k:Int)),(80,lR 12),(81,lI ((Xi c n b n.2.length).length:Int)),(82,lI (j:Int))],[bx 0 28 [.dat Qj c.1,.dat Qd c.2.1,.dat Qq c.2.2],bx 1 48 [.dat Qj n.1,.dat Zk n.2],bx 2 54 [.val (.slice none 0 0),.val (.slice none 0 0),.val (.slice none 0 0)],bx 4 54 [.ref 13,.ref 14,.ref 15],ar 12 3 .int (Xi c n b n.2.length),ar 13 59 QM a,ar 14 68 QI g,ar 15 68 QI (l++((Xi c n b n.2.length).take j).map fun w=>((k:Int),w,-1))]⟩) ?_ fun j _=> ?_
 exact wp [(15,9)] ⟨rfl,rfl,rfl,rfl,rfl,rfl,rfl,(Qg ((by simp))),trivial⟩
 have b5:(l++((Xi c n b n.2.length).take j).map fun w=>((k:Int),w,(-1:Int))).length≤24*k+j:=by rw[ai,aC,au];omega
 refine w4 ?_
 cases z:(decide ((j:Int)<((Xi c n b n.2.length).length:Int)))
 have G:=ab z
 refine w7 ?_
 exact Qc<|Zb ⟨k+1,a,g,(l++((Xi c n b n.2.length).take j).map fun w=>((k:Int),w,-1)),by omega,rfl,(QpY r (Qt1 (j:=j) f u (by omega) rfl (by omega)) (ae.1 f).1 o (by omega)),(Qvq J M f (Qt1 (j:=j) f u (by omega) rfl (by omega))),(by omega),⟨by omega,by omega⟩,rfl⟩ (by omega)<|wp [(5,13),(7,14),(9,15)] ⟨rfl,rfl,rfl,rfl,rfl,rfl,(Qg rfl),trivial⟩
 have G:=aa z
 refine w6 ?_
 obtain ⟨xw,R⟩:=gx (Xi c n b n.2.length) j
 refine w8 ?_
 refine lc (Qh QcX ⟨_,_,rfl,(Qm rfl),⟨_,_,rfl,(Qm rfl),⟨_,_,rfl,(Evl.ev (Qn rfl)),rfl⟩⟩⟩ (ao.1 rfl) rfl rfl)<|lc (dBs 16 (e:=QI) VM (hab:=by exact ⟨_,_,_,_,rfl,⟨[dI (k:Int)],[dI xw,dI (-1)],_,_,_,_,rfl,rfl,⟨rfl,rfl⟩,⟨[dI xw],[dI (-1)],_,_,_,_,rfl,rfl,⟨rfl,rfl⟩,⟨rfl,rfl⟩,rfl⟩,rfl⟩,⟨rfl,rfl⟩,rfl⟩))<|lc (dA 17 Qa9)<|w2 ?_
 refine Qc<|w4 ?_
 exact Qc<|l0_<|wp [(15,17)] ⟨rfl,rfl,rfl,rfl,rfl,rfl,rfl,(Qg ((by rw[Qr R,aT,aM];rfl))),trivial⟩
 have Q:=aa P
 refine w7 ?_
 obtain ⟨y,T⟩:=gx (YE c n b n.2.length) i
 have K:=T
 refine w_ ?_
 refine lc (xal 18 QM YJ)<|w7 ?_
 refine lc (dB_ (Qej a y) Qmy)<|w7 ?_
 cases A:(decide ((HM a y)<0))
 have H:=ab A
 refine w2 ?_
 obtain ⟨w,C⟩:=gx (X3 c n b n.2.length) i
 have Z:=C
 apply dV (i5 67 _ _ _ _ _ [io 72 (lf (.ept 11 1 i 0)),io 73 (lI w),io 74 _,io 75 (ag [dI (k:Int),dI w,dI (HM a y)]),⟨some 76,lR 19,[ar 19 68 QI ([((k:Int),w,HM a y)])]⟩,⟨some 77,lR 20,[ar 20 68 QI (g++([((k:Int),w,HM a y)])),(14,none),(19,none)]⟩,io 78 _,⟨none,lf (.val undef),[bx 4 54 [.ref 13,.ref 20,.ref 9]]⟩]) [0,0,3,7,15,7,7,127,3,3,0,0,0]
 refine z5 ?_
 refine zz (fun _ d=>ac (Qw (e:= .int) (d.v rfl) (d.en 11 rfl) (d.v rfl) ZX Zv rfl (by omega) (by first|omega|(simp only[ax];omega))) rfl)<|zz (fun _ d=>ac (ZE (e:= .int) (d.v rfl) (d.n 11 rfl) C rfl Zv rfl rfl) rfl)<|z_ ?_
 refine zz (fun _ d=>ac (Qh QcX ⟨_,_,rfl,(d.w rfl),⟨_,_,rfl,(d.w rfl),⟨_,_,rfl,(d.w rfl),rfl⟩⟩⟩ (ao.1 rfl) rfl rfl) rfl)<|zz (fun _ d=>ac (dBs 19 (e:=QI) VM (hab:=by exact ⟨_,_,_,_,rfl,⟨[dI (k:Int)],[dI w,dI (HM a y)],_,_,_,_,rfl,rfl,⟨rfl,rfl⟩,⟨[dI w],[dI (HM a y)],_,_,_,_,rfl,rfl,⟨rfl,rfl⟩,⟨rfl,rfl⟩,rfl⟩,rfl⟩,⟨rfl,rfl⟩,rfl⟩)) rfl)<|zz (fun _ d=>ac (dA 20 Qa9) rfl)<|z_ ?_
 exact zz (fun _ d=>ac (QR (d.v rfl) (d.en 4 rfl) (d.w rfl) (by simp only[QH,Xh,aV,bo];rw[(d.en 20 rfl)];rfl) QjU rfl) rfl)<|zN
 refine w4 ?_
 exact Qc<|Zb ⟨i+1,a,(g++([((k:Int),w,HM a y)])),by omega,rfl,(by exact Qza (Qg2 K Z) u (Qpc ‹_›).1 (Qpc ‹_›).2),(by exact h),(by exact Y),rfl⟩ (by omega)<|wp [(14,20)] ⟨rfl,rfl,rfl,rfl,rfl,rfl,rfl,rfl,rfl,(Qg rfl),trivial⟩
 have H:=aa A
 refine w8 ?_
 cases B:(decide ((a.length:Int)=600))
 have I:=ab B
 refine w12 ?_
 refine lc (dBs 21 (e:=QM) YJ (hab:=by exact ⟨_,_,_,_,rfl,⟨[dI y.1],[dS y.2],_,_,_,_,rfl,rfl,⟨rfl,rfl⟩,⟨rfl,rfl⟩,rfl⟩,⟨rfl,rfl⟩,rfl⟩))<|lc (dA 22 Qfy)<|w3 ?_
 obtain ⟨w,D⟩:=gx (X3 c n b n.2.length) i
 have Z:=D
 apply dV (i5 67 _ _ _ _ _ [io 72 (lf (.ept 11 1 i 0)),io 73 (lI w),io 74 _,io 75 (ag [dI (k:Int),dI w,dI (a.length:Int)]),⟨some 76,lR 23,[ar 23 68 QI ([((k:Int),w,(a.length:Int))])]⟩,⟨some 77,lR 24,[ar 24 68 QI (g++([((k:Int),w,(a.length:Int))])),(14,none),(23,none)]⟩,io 78 _,⟨none,lf (.val undef),[bx 4 54 [.ref 22,.ref 24,.ref 9]]⟩]) [0,0,3,7,15,7,7,127,3,3,0,0,0]
 refine z5 ?_
 refine zz (fun _ d=>ac (Qw (e:= .int) (d.v rfl) (d.en 11 rfl) (d.v rfl) ZX Zv rfl (by omega) (by first|omega|(simp only[ax];omega))) rfl)<|zz (fun _ d=>ac (ZE (e:= .int) (d.v rfl) (d.n 11 rfl) D rfl Zv rfl rfl) rfl)<|z_ ?_
 refine zz (fun _ d=>ac (Qh QcX ⟨_,_,rfl,(d.w rfl),⟨_,_,rfl,(d.w rfl),⟨_,_,rfl,(d.w rfl),rfl⟩⟩⟩ (ao.1 rfl) rfl rfl) rfl)<|zz (fun _ d=>ac (dBs 23 (e:=QI) VM (hab:=by exact ⟨_,_,_,_,rfl,⟨[dI (k:Int)],[dI w,dI (a.length:Int)],_,_,_,_,rfl,rfl,⟨rfl,rfl⟩,⟨[dI w],[dI (a.length:Int)],_,_,_,_,rfl,rfl,⟨rfl,rfl⟩,⟨rfl,rfl⟩,rfl⟩,rfl⟩,⟨rfl,rfl⟩,rfl⟩)) rfl)<|zz (fun _ d=>ac (dA 24 Qa9) rfl)<|z_ ?_
 exact zz (fun _ d=>ac (QR (d.v rfl) (d.en 4 rfl) (d.w rfl) (by simp only[QH,Xh,aV,bo];rw[(d.en 24 rfl)];rfl) QjU rfl) rfl)<|zN
 refine w4 ?_
 exact Qc<|Zb ⟨i+1,(a++([(y.1,y.2)])),(g++([((k:Int),w,(a.length:Int))])),by omega,rfl,(by exact QlR (Qg2 K Z) u (Qcn ‹_›)),(by (rw[bm (ae.1 h).1];exact h)),(by (rw[ai,cy];omega)),rfl⟩ (by omega)<|wp [(13,22),(14,24)] ⟨rfl,rfl,rfl,rfl,rfl,rfl,rfl,rfl,(Qg rfl),(Qg rfl),trivial⟩
 have I:=aa B
 refine w2 ?_
 refine lc (Qh QcV rfl (ao.1 rfl) rfl rfl)<|w3 ?_
 refine AC.wk (Qo 25 (p:=2) (off:=0) 59 QM rfl rfl (Fresh.of rfl) (nlr rfl))<|AC.wk (Qo 26 (p:=2) (off:=1) 68 QI rfl rfl (Fresh.of rfl) (nlr rfl))<|AC.wk (Qo 27 (p:=2) (off:=2) 68 QI rfl rfl (Fresh.of rfl) (nlr rfl))<|w_ ?_
 have X:(false:Bool)=((prX c n).2):=by
  exact (H0 (QeX r f o K u (Qcn ‹_›) (by omega))).2.2.2
 exact fi_ [(0,25),(1,26),(2,27)] hO ⟨(Qg (by exact (H0 (QeX r f o K u (Qcn ‹_›) (by omega))).1)),(Qg (by exact (H0 (QeX r f o K u (Qcn ‹_›) (by omega))).2.1)),(Qg (by exact (H0 (QeX r f o K u (Qcn ‹_›) (by omega))).2.2.1)),trivial⟩ (h0:=by rw[← X] <;> rfl)
def Qd9 (c:Yw)(n:Ua)[∀c,Decidable (SgOk c)][∀n,Decidable (QV n)]:FC prog 23 [(true,[.dat Qj c.1,.dat Qd c.2.1,.dat Qq c.2.2]),(true,[.dat Qj n.1,.dat Zk n.2])] [] 0 (Is (PV.tup [(true,[.ref 0,.ref 1,.ref 2]),(false,[dB ((Q3 c n).2)])]) [ar 0 59 QM (((Q3 c n).1).1),ar 1 68 QI (((Q3 c n).1).2.1),ar 2 68 QI (((Q3 c n).1).2.2)]):=by
 refine Ql func23 rfl rfl ntmps23 fun u f r g v q o=>w_ ?_
 refine xbx 0 ?_
 refine xbx 1 ?_
 refine lc (xal 2 QlA JF)<|w6 ?_
 refine lc (dK (Kc c n) Qc7)<|w2 ?_
 cases a:(decide (GoP c n))
 have d:=ab a
 refine w2 ?_
 refine lc (Qh QcV rfl (ao.1 rfl) rfl rfl)<|w3 ?_
 refine AC.wk (Qo 3 (p:=2) (off:=0) 59 QM rfl rfl (Fresh.of rfl) (nlr rfl))<|AC.wk (Qo 4 (p:=2) (off:=1) 68 QI rfl rfl (Fresh.of rfl) (nlr rfl))<|AC.wk (Qo 5 (p:=2) (off:=2) 68 QI rfl rfl (Fresh.of rfl) (nlr rfl))<|w_ ?_
 have h:(false:Bool)=((Q3 c n).2):=by
  exact (Qld ‹_›).2.2.2
 exact fi_ [(0,3),(1,4),(2,5)] f ⟨(Qg (by exact (Qld ‹_›).1)),(Qg (by exact (Qld ‹_›).2.1)),(Qg (by exact (Qld ‹_›).2.2.1)),trivial⟩ (h0:=by rw[← h] <;> rfl)
 have d:=aa a
 refine w5 ?_
 refine lc (dG 6 (QbB c n ‹_›) Qra)<|w6 ?_
 have l:((prX c n).2:Bool)=((Q3 c n).2):=by
  (rw[Qcz ‹_›])
 exact fi_ [(0,6),(1,7),(2,8)] f ⟨(Qg (by (rw[Qcz ‹_›]))),(Qg (by (rw[Qcz ‹_›]))),(Qg (by (rw[Qcz ‹_›]))),trivial⟩ (h0:=by rw[l] <;> rfl)
end Go.Proofs.YtjfpbcmfbnnooaaGreat
