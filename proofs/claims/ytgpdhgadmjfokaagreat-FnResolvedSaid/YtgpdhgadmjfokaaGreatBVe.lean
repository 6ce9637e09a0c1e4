/- Walks over abstract states: the arcs that leave a state; the place of a name. -/
import Derived.Test.YtgpdhgadmjfokaaGreatBVc
import Derived.Test.YtgpdhgadmjfokaaGreatBAu
import Derived.DeepKeys3
set_option linter.unusedSimpArgs false
set_option linter.unusedVariables false
set_option linter.unusedSectionVars false
namespace Go.Proofs.YtgpdhgadmjfokaaGreat
open Go.RowKit
set_option maxRecDepth 100000
set_option maxHeartbeats 4000000
def DelI {α:Type _}(p:α→Bool)(l0 l:List α)(i j:Int):Prop:=(0≤i∧i < j∧j≤(l.length:Int))∧l.length=l0.length∧l.take i.toNat=(l0.take j.toNat).filter p∧l.drop j.toNat=l0.drop j.toNat
section
variable {α:Type _}{p f:α→Bool}{l0 l:List α}{i j:Int}{x:α}
theorem QaC (f:α→Bool)(l:List α):(Zl f l= -1∧∀x∈l,f x=false)∨∃(k:Nat) (x:α),Zl f l=(k:Int)∧l[k]? =some x∧f x=true∧NoneTo f l k:=by
 unfold Zl
 cases h:l.findIdx? f with
 | none=>exact .inl ⟨rfl,fun x g=>by simpa using List.findIdx?_eq_none_iff.1 h x g⟩
 | some k=>
  obtain ⟨a,b,c⟩:=cA.1 h
  exact .inr ⟨k,l[k],rfl,ak a,b,fun j e y m=>by
   obtain ⟨n,d⟩:=ai.1 m
   have:=c j e
   rw[d] at this
   simpa using this⟩
theorem QiN (f:α→Bool)(l:List α): -1≤Zl f l∧Zl f l < (l.length:Int):=by
 rcases QaC f l with ⟨h,_⟩ | ⟨k,x,h,a,_⟩
 ·omega
 ·have:=(ai.1 a).1
  omega
theorem QcN (h:Zl f l= -1):l=l.filter fun x=> !f x:=by
 rcases QaC f l with ⟨_,a⟩ | ⟨k,_,a,_⟩
 ·exact (dk.2 fun x b=>by rw[a x b]; rfl).symm
 ·omega
theorem DelI.start (h:¬Zl f l= -1):DelI (fun x=> !f x) l l (Zl f l) (Zl f l+1):=by
 rcases QaC f l with ⟨a,_⟩ | ⟨k,x,a,d,e,g⟩
 ·exact absurd a h
 ·have o:=(ai.1 d).1
  rw[a]
  refine ⟨by omega,rfl, ?_,rfl⟩
  rw[show ((k:Int)+1).toNat=k+1 by omega,show ((k:Int)).toNat=k by omega,QG d,bf]
  have:([x].filter fun x=> !f x)=[]:=by simp[e]
  rw[this,bq]
  refine (dk.2 fun y m=> ?_).symm
  obtain ⟨n,b⟩:=aM.1 m
  have c:=(ai.1 b).1
  rw[ap] at c
  rw[List.getElem?_take_of_lt (by omega)] at b
  rw[g n (by omega) y b]; rfl
theorem DelI.at_ (h:DelI p l0 l i j)(b:l[j.toNat]? =some x):l0[j.toNat]? =some x:=by
 obtain ⟨c,d,e,a⟩:=h
 have:=congrArg (fun l:List α=>l[0]?) a
 simpa [b] using this.symm
theorem DelI.lt (h:DelI p l0 l i j)(a:l[j.toNat]? =some x):j < (l.length:Int):=by
 have:=(ai.1 a).1
 obtain ⟨b,_⟩:=h
 omega
theorem DelI.drop_ (h:DelI p l0 l i j)(a:l[j.toNat]? =some x)(g:p x=false):DelI p l0 l i (j+1):=by
 have b:=h.at_ a
 have m:=h.lt a
 obtain ⟨k,c,d,e⟩:=h
 refine ⟨by omega,c, ?_, ?_⟩
 ·rw[show (j+1).toNat=j.toNat+1 by omega,QG b,bf,d]; simp[g]
 ·have:=congrArg (List.drop 1) e
  rw[dt,dt] at this
  rw[show (j+1).toNat=j.toNat+1 by omega]
  exact this
theorem DelI.keep (h:DelI p l0 l i j)(a:l[j.toNat]? =some x)(k:p x=true):DelI p l0 (l.set i.toNat x) (i+1) (j+1):=by
 have b:=h.at_ a
 have n:=h.lt a
 obtain ⟨m,c,d,e⟩:=h
 refine ⟨by rw[az]; omega,by rw[az]; exact c, ?_, ?_⟩
 ·have g:(l.set i.toNat x)[i.toNat]? =some x:=aZ (by omega)
  rw[show (j+1).toNat=j.toNat+1 by omega,show (i+1).toNat=i.toNat+1 by omega,QG g,QG b,bf,List.take_set_of_le (aO _),d]
  simp[k]
 ·have:=congrArg (List.drop 1) e
  rw[dt,dt] at this
  rw[show (j+1).toNat=j.toNat+1 by omega,List.drop_set_of_lt (by omega)]
  exact this
theorem DelI.end_ {z:List α}(h:DelI p l0 l i j)(g:¬j < (l.length:Int))(n:Nat)(b:n=i.toNat):(l.take i.toNat++z).take n=l0.filter p:=by
 obtain ⟨c,d,a,e⟩:=h
 subst b
 rw[List.take_left' (by rw[ap]; omega),a,bB (by omega)]
end
theorem QiM {l:List DAr}{q:Int}:(l.filter fun x=> !(!decide (x.1=q)))=Yf l q:=by
 unfold Yf
 congr 1
 funext x
 rw[Bool.not_not]
theorem V3 (a:Qf5)(q:Int):FC Tryz.prog 399 [(true,[dI a.1,dI a.2.1,dB a.2.2.1,dI a.2.2.2]),(false,[.ptr 0 0])] [bx 0 3 [dI q]] 1 (Is (lB (!decide (a.1=q))) [bx 0 3 [dI q]]):=by
 refine Qt Tryz.func399 rfl rfl Tryz.ntmps399 fun h e g b k d c=> ?_
 refine acG 0 0 fun _=> ?_
 refine acG 0 1 fun _=> ?_
 refine acG 0 3 fun _=> ?_
 refine w_ ?_
 refine xbx 1 ?_
 refine w6 ?_
 refine alI 6 fun _=> ?_
 refine w4 ?_
 exact fi_ [] e ⟨rfl,trivial⟩
theorem Jh (l:QiX)(q:Int)(A:l.length≤1000000):FC Tryz.prog 313 [(false,[.ref 1]),(false,[.clo 399 [0]])] [bx 0 3 [dI q],ar 1 46 Qs l] 2 (Is (lI (Zl (fun a:DAr=> !decide (a.1=q)) l)) [bx 0 3 [dI q],ar 1 46 Qs l]):=by
 refine Qt Tryz.func313 rfl rfl Tryz.ntmps313 fun y o w r z v u=> ?_
 refine w10 ?_
 refine lpK l.length (fun k=>NoneTo (fun a:DAr=> !decide (a.1=q)) l k) (fun k=>⟨[(0,lR 1),(1,lf (.clo 399 [0])),(7,lI (l.length:Int)),(8,lI (k:Int))],[bx 0 3 [dI q],ar 1 46 Qs l]⟩) (NoneTo.zero) ?_ fun k _ c=> ?_
 exact wo []
 refine w4 ?_
 cases g:(decide ((k:Int) < (l.length:Int)))
 have h:=aa g
 refine w7 ?_
 have s:((-1):Int)=(Zl (fun a:DAr=> !decide (a.1=q)) l):=by
  first | exact (c.no (by omega)).symm
 exact fi_ [] o ⟨rfl,rfl,trivial⟩ (h0:=by rw[← s] <;> rfl)
 have h:=ab g
 refine w12 ?_
 refine lc (QE (e:=Qs) (Qa rfl) rfl (Qa rfl) WM V0 rfl (by omega) (by first | omega | (simp only[az]; omega))) ?_
 obtain ⟨b,d⟩:=gx l k
 refine lc (Vn (e:=Qs) (Qa rfl) rfl d rfl V0 rfl rfl)<|lc (Xu (args0:=[(true,[dI b.1,dI b.2.1,dB b.2.2.1,dI b.2.2.2])]) (caps:=[0]) 2 [(0,0)] (V3 b q) Qfi rfl (Qa rfl) rfl rfl ⟨_,_,rfl,(Qo rfl),rfl⟩ ⟨rfl,trivial⟩ rfl ⟨trivial,trivial⟩ (nlr rfl)) ?_
 refine w_ ?_
 cases m:(!decide (b.1=q))
 have n:(b.1=q):=QM m
 refine w6 ?_
 refine Qb ?_
 refine lK_ (c.step d (by simp[*])) ?_
 exact wo []
 have n:¬(b.1=q):=QS m
 refine w6 ?_
 have t:((k:Int):Int)=(Zl (fun a:DAr=> !decide (a.1=q)) l):=by
  exact (c.at d (by simp[*])).symm
 exact fi_ [] o ⟨rfl,rfl,trivial⟩ (h0:=by rw[t] <;> rfl)
theorem Qba (l:QiX)(q:Int)(D:l.length≤1000000):FC Tryz.prog 397 [(false,[.ref 1]),(false,[.clo 399 [0]])] [bx 0 3 [dI q],ar 1 46 Qs l] 1 (Is (lR 2) [bx 0 3 [dI q],ar 2 46 Qs (Yf l q)]):=by
 have C:=QiN (fun a:DAr=> !decide (a.1=q)) l
 refine Qt Tryz.func397 rfl rfl Tryz.ntmps397 fun G t F w H z y=> ?_
 refine w6 ?_
 refine lc (dP 2 [] (Jh l q D) QaA) ?_
 refine w7 ?_
 refine cd_ (fun _ _=> ?_) fun _ _=> ?_
 refine w8 ?_
 refine QL (fun u v=>∃(i:Int) (j:Int) (c:List (Int×Int×Bool×Int)),u=((c.length:Int) - j).toNat∧(DelI (fun x:DAr=> !(!decide (x.1=q))) l c i j)∧v=⟨[(0,lR 4),(1,lf (.clo 399 [0])),(4,lf (.val (.slice none 0 0))),(5,lI i),(6,lI j)],[bx 0 3 [dI q],ar 4 46 Qs c]⟩) ⟨Zl (fun a:DAr=> !decide (a.1=q)) l,(Zl (fun a:DAr=> !decide (a.1=q)) l)+1,l,rfl,(DelI.start ‹_›),rfl⟩ ?_ ?_
 exact wo [(4,1)]
 rintro u v ⟨i,j,c,E,g,rfl⟩
 have A:=g.1
 have B:=g.2.1
 refine w7 ?_
 cases k:(decide (j < (c.length:Int)))
 have m:=aa k
 refine w6 ?_
 refine lc (Yp (e:=Qs) (a:=(i).toNat) (b:=c.length - (i).toNat) (l:=(some i)) (h:=none) (Qa rfl) rfl (by exact (Qa rfl)) (by exact trivial) WM V0 rfl (by first | (simp only[av,ao]; omega) | omega | (simp only[av,ao,ae,ap,aF]; omega)) (by first | (simp only[av,ao]; omega) | omega | (simp only[av,ao,ae,ap,aF]; omega)) (by first | (simp only[av,ao]; omega) | omega | (simp only[av,ao,ae,ap,aF]; omega)) (by first | rfl | simp) (by first | rfl | simp))<|lc (QcV (e:=Qs) (Qa rfl) rfl (by omega) WM Zg rfl rfl rfl) ?_
 refine w4 ?_
 refine lc (Yp (e:=Qs) (a:=0) (b:=(i).toNat) (l:=none) (h:=(some i)) (Qa rfl) rfl (by exact trivial) (by exact (Qa rfl)) WM V0 rfl (by first | (simp only[av,ao]; omega) | omega | (simp only[av,ao,ae,ap,aF]; omega)) (by first | (simp only[av,ao]; omega) | omega | (simp only[av,ao,ae,ap,aF]; omega)) (by first | (simp only[av,ao]; omega) | omega | (simp only[av,ao,ae,ap,aF]; omega)) (by first | rfl | simp) (by first | rfl | simp)) ?_
 refine w2 ?_
 refine AC.wk (QfU 5 4 (e:=Qs) (xs:=c.take ((i).toNat)++List.replicate (c.length - (i).toNat) (Ty.zero Qs)) rfl rfl (by first | omega | (simp only[ae,ap,aF]; omega)) rfl (Fresh.of rfl) (nlr rfl))<|Qd ?_
 exact fi_ [(2,5)] t ⟨rfl,(Qe (by exact (g.end_ ‹_› _ (by omega)).trans QiM)),trivial⟩
 have m:=ab k
 refine w7 ?_
 refine lc (QE (e:=Qs) (Qa rfl) rfl (Qa rfl) WM V0 rfl (by omega) (by first | omega | (simp only[az]; omega))) ?_
 obtain ⟨d,r⟩:=gx c ((j).toNat)
 refine lc (Vn (e:=Qs) (Qa rfl) rfl r rfl V0 rfl rfl)<|lc (xal 6 Qs Zg) ?_
 refine w5 ?_
 refine lc (Xu (args0:=[(true,[dI d.1,dI d.2.1,dB d.2.2.1,dI d.2.2.2])]) (caps:=[0]) 7 [(0,0)] (V3 d q) Qfi rfl (Qa rfl) rfl rfl ⟨_,_,rfl,(Qo rfl),rfl⟩ ⟨rfl,trivial⟩ rfl ⟨trivial,trivial⟩ (nlr rfl)) ?_
 refine w2 ?_
 cases n:(!decide (d.1=q))
 have o:(d.1=q):=QM n
 refine w5 ?_
 refine lc (QE (e:=Qs) (Qa rfl) rfl (Qa rfl) WM V0 rfl (by omega) (by first | omega | (simp only[az]; omega))) ?_
 obtain ⟨I,s⟩:=gx c ((i).toNat)
 refine lc (QB (e:=Qs) (z':=d) (Qa rfl) rfl s rfl (Qo rfl) rfl V0 rfl rfl) ?_
 refine w5 ?_
 refine Qb ?_
 refine w5 ?_
 refine Qb<|Q2 ⟨(i+1),(j+1),(c.set ((i).toNat) d),rfl,(by exact g.keep (x:=d) ‹_› (by simp[*])),rfl⟩ (by first | omega | (simp only[az]; omega)) ?_
 exact wp [] ⟨rfl,(Qe (by first | rfl | simp)),trivial⟩
 have o:¬(d.1=q):=QS n
 refine w7 ?_
 refine Qb<|Q2 ⟨i,(j+1),c,rfl,(by exact g.drop_ (x:=d) ‹_› (by simp[*])),rfl⟩ (by first | omega | (simp only[az]; omega)) ?_
 exact wo []
 refine w5 ?_
 exact fi_ [(2,1)] t ⟨rfl,(Qe (by exact (QcN ‹_›).trans QiM)),trivial⟩
theorem Wp (s:QiX)(o:s.length≤1000000):FC Tryz.prog 398 [(false,[.dat Qu s])] [] 0 (YJ 46 Qs s):=by
 refine Qt Tryz.func398 rfl rfl Tryz.ntmps398 fun k b h c m g d=> ?_
 refine w6 ?_
 refine Qe9 (Qa rfl) Evl.val WM rfl fun n a=> ?_
 refine w_ ?_
 refine cb_ (fun _=> ?_) fun _=> ?_
 refine w2 ?_
 refine lc (dBs 0 (e:=Qs) Zg) ?_
 refine w_ ?_
 refine lc (QU 1 (Qa rfl) rfl (Evl.rep (Qa rfl)) rfl WM UM (by first | omega | (simp only[ae,aC,ap,aj,aA]; omega) | (simp only[ae,bo,ap,aj,aA]; omega)) rfl (Fresh.of rfl) (nlr rfl)) ?_
 refine w2 ?_
 refine Qd<|fo_ b ?_
 rfl
 refine w3 ?_
 refine AC.wk (Wk.nilS 2 2 46 Qs rfl (Fresh.of rfl) (nlr rfl))<|Qd<|fo_ b ?_
 exact (a ‹_›).symm
theorem QcA (c:ZB)(q:Int)(a:c.2.2.length≤1000000):FC Tryz.prog 310 [(true,[.dat Ql c.1, .dat Qm c.2.1, .dat Qu c.2.2]),(false,[dI q])] [] 0 (YJ 46 Qs (Yf c.2.2 q)):=by
 refine Qt Tryz.func310 rfl rfl Tryz.ntmps310 fun k g h b m e d=> ?_
 refine acI 1 fun _=> ?_
 refine w_ ?_
 refine xbx 0 ?_
 refine xbx 1 ?_
 refine w5 ?_
 refine lc (dO 2 (Wp c.2.2 a) Qmt) ?_
 refine lc (Y6 ⟨_,_,rfl,(Qa rfl),rfl,rfl⟩ rfl) ?_
 refine lc (dP 3 [(0,1),(1,2)] (Qba c.2.2 q a) Qmm) ?_
 refine w3 ?_
 exact fo_ g rfl
theorem Qec (c:ZB)(q:Int)(z:c.2.2.length≤1000000):FC Tryz.prog 400 [(true,[.dat Ql c.1, .dat Qm c.2.1, .dat Qu c.2.2]),(false,[dI q])] [] 0 (YJ 46 Qs (Yf c.2.2 q)):=by
 refine Qt Tryz.func400 rfl rfl Tryz.ntmps400 fun w s v n y r o=> ?_
 refine acI 1 fun _=> ?_
 refine w_ ?_
 refine xbx 0 ?_
 refine w9 ?_
 refine alL 9 fun _=> ?_
 refine w4 ?_
 refine AC.wk (Wk.nilS 1 5 46 Qs rfl (Fresh.of rfl) (nlr rfl)) ?_
 refine lp0 c.2.2.length (fun k=>⟨[(1,lI q),(4,lf (.val (.slice none 0 0))),(5,lR 2),(9,lf (.dat Qu c.2.2)),(10,lI (c.2.2.length:Int)),(11,lI (k:Int))],[ar 2 46 Qs (Yf (c.2.2.take k) q)]⟩) ?_ fun k _=> ?_
 exact wp [(2,1)] ⟨(Qe (by first | rfl | simp)),trivial⟩
 have t:=Qa7 (l:=c.2.2.take k) (q:=q)
 have u:(c.2.2.take k).length≤c.2.2.length:=by simp only[ap]; omega
 refine w4 ?_
 cases d:(decide ((k:Int) < (c.2.2.length:Int)))
 have g:=aa d
 refine w7 ?_
 refine Qd<|fo_ s ?_
 rw[QH (by omega)]
 have g:=ab d
 refine w5 ?_
 obtain ⟨a,b⟩:=gx c.2.2 k
 refine w2 ?_
 refine lc (xal 3 Qs Zg) ?_
 refine w5 ?_
 refine alI 16 fun _=> ?_
 refine w3 ?_
 cases h:(decide (a.1=q))
 have m:=aa h
 refine w6 ?_
 refine Qb ?_
 refine l0_ ?_
 exact wp [] ⟨(Qe (by first | exact QjY b ‹_› | exact Qnc b ‹_›)),trivial⟩
 have m:=ab h
 refine w4 ?_
 refine lc (dBs 4 (e:=Qs) Zg (hab:=by exact ⟨_,_,_,_,rfl,⟨[dI a.1],[dI a.2.1,dB a.2.2.1,dI a.2.2.2],_,_,_,_,rfl,rfl,⟨rfl,rfl⟩,⟨[dI a.2.1],[dB a.2.2.1,dI a.2.2.2],_,_,_,_,rfl,rfl,⟨rfl,rfl⟩,⟨[dB a.2.2.1],[dI a.2.2.2],_,_,_,_,rfl,rfl,⟨rfl,rfl⟩,⟨rfl,rfl⟩,rfl⟩,rfl⟩,rfl⟩,⟨rfl,rfl⟩,rfl⟩)) ?_
 refine lc (dA 5 UM) ?_
 refine w_ ?_
 refine Qb ?_
 refine w4 ?_
 refine Qb ?_
 refine l0_ ?_
 exact wp [(2,5)] ⟨(Qe (by first | exact QjY b ‹_› | exact Qnc b ‹_›)),trivial⟩
theorem Qaq (x:ByteArray×Int)(name:ByteArray):FC Tryz.prog 308 [(true,[dS x.1,dI x.2]),(false,[.ptr 0 0])] [bx 0 9 [dS name]] 1 (Is (lB (decide (x.1=name))) [bx 0 9 [dS name]]):=by
 refine Qt Tryz.func308 rfl rfl Tryz.ntmps308 fun g d e a h c b=> ?_
 refine acG 0 1 fun _=> ?_
 refine w_ ?_
 refine xbx 1 ?_
 refine w10 ?_
 exact fi_ [] d ⟨rfl,trivial⟩
theorem K2 (l:QmB)(name:ByteArray):FC Tryz.prog 307 [(false,[.dat Ql l]),(false,[.clo 308 [0]])] [bx 0 9 [dS name]] 1 (Is (lI (Zl (fun x:QD=>decide (x.1=name)) l)) [bx 0 9 [dS name]]):=by
 refine Qt Tryz.func307 rfl rfl Tryz.ntmps307 fun u m t n v s r=> ?_
 refine w6 ?_
 refine alL 6 fun _=> ?_
 refine w4 ?_
 refine lpK l.length (fun k=>NoneTo (fun x:QD=>decide (x.1=name)) l k) (fun k=>⟨[(0,lf (.dat Ql l)),(1,lf (.clo 308 [0])),(7,lI (l.length:Int)),(8,lI (k:Int))],[bx 0 9 [dS name]]⟩) (NoneTo.zero) ?_ fun k _ a=> ?_
 exact wo []
 refine w4 ?_
 cases b:(decide ((k:Int) < (l.length:Int)))
 have c:=aa b
 refine w7 ?_
 have o:((-1):Int)=(Zl (fun x:QD=>decide (x.1=name)) l):=by
  first | exact (a.no (by omega)).symm
 exact fi_ [] m ⟨rfl,trivial⟩ (h0:=by rw[← o] <;> rfl)
 have c:=ab b
 refine w12 ?_
 obtain ⟨h,g⟩:=gx l k
 refine w2 ?_
 refine lc (Xu (args0:=[(true,[dS h.1,dI h.2])]) (caps:=[0]) 1 [(0,0)] (Qaq h name) Qmd rfl (Qa rfl) rfl rfl ⟨_,_,rfl,(Qo rfl),rfl⟩ ⟨rfl,trivial⟩ rfl ⟨trivial,trivial⟩ (nlr rfl)) ?_
 refine w_ ?_
 cases d:(decide (h.1=name))
 have e:=aa d
 refine w6 ?_
 refine Qb ?_
 refine lK_ (a.step g ‹_›) ?_
 exact wo []
 have e:=ab d
 refine w6 ?_
 have q:((k:Int):Int)=(Zl (fun x:QD=>decide (x.1=name)) l):=by
  exact (a.at g ‹_›).symm
 exact fi_ [] m ⟨rfl,trivial⟩ (h0:=by rw[q] <;> rfl)
theorem Ke (l:QmB)(name:ByteArray):FC Tryz.prog 194 [(false,[.dat Ql l]),(false,[dS name])] [] 0 (Q7 (lI (Zl (fun x:QD=>decide (x.1=name)) l))):=by
 refine Qt Tryz.func194 rfl rfl Tryz.ntmps194 fun g d e a h c b=> ?_
 refine w_ ?_
 refine xbx 0 ?_
 refine w4 ?_
 refine lc (Y6 ⟨_,_,rfl,(Qa rfl),rfl,rfl⟩ rfl) ?_
 refine lc (dP 1 [] (K2 l name) QmN) ?_
 refine w3 ?_
 exact fe_ d
theorem WT (l:QmB)(name:ByteArray):FC Tryz.prog 199 [(false,[.dat Ql l]),(false,[dS name])] [] 0 (Q7 (lI (Zl (fun x:QD=>decide (x.1=name)) l))):=by
 refine Qt Tryz.func199 rfl rfl Tryz.ntmps199 fun s h q m t o n=> ?_
 refine w6 ?_
 refine alL 7 fun _=> ?_
 refine w4 ?_
 refine lpK l.length (fun k=>NoneTo (fun x:QD=>decide (x.1=name)) l k) (fun k=>⟨[(1,lf (dS name)),(7,lf (.dat Ql l)),(8,lI (l.length:Int)),(9,lI (k:Int))],[]⟩) (NoneTo.zero) ?_ fun k _ a=> ?_
 exact wo []
 refine w4 ?_
 cases b:(decide ((k:Int) < (l.length:Int)))
 have c:=aa b
 refine w6 ?_
 refine Qd<|fqI h ?_
 first | exact (a.no (by omega)).symm
 have c:=ab b
 refine w6 ?_
 obtain ⟨r,g⟩:=gx l k
 refine w2 ?_
 refine lc (xal 0 Qz WA) ?_
 refine w9 ?_
 cases d:(decide (r.1=name))
 have e:=aa d
 refine w6 ?_
 refine Qb ?_
 refine lK_ (a.step g ‹_›) ?_
 exact wo []
 have e:=ab d
 refine w5 ?_
 refine Qd<|fqI h ?_
 exact (a.at g ‹_›).symm
end Go.Proofs.YtgpdhgadmjfokaaGreat
namespace Go.Proofs.YtgpdhgadmjfokaaGreat
open Go.RowKit
set_option maxRecDepth 100000
set_option maxHeartbeats 4000000
abbrev PSt:=Int×Bool
theorem QmK {n:Int}{b:Bool}(h: -9223372036854775808≤n∧n≤9223372036854775807):∃l,keyOf Tryz.prog 207 (.agg #[.int .i64 n, .bool b])=some l:=by
 have g:=Tryz.underlying207
 have k:Tryz.prog.keyType 207=true:=by kernel_rfl
 have j:Tryz.prog.cellsOf 207=2:=by kernel_rfl
 have e:Tryz.prog.cellsOf 3=1:=by kernel_rfl
 have f:Tryz.prog.cellsOf 4=1:=by kernel_rfl
 have m:Tryz.prog.types.size+1=(Tryz.prog.types.size - 1)+1+1:=by
  have:1≤Tryz.prog.types.size:=by exact ab (by kernel_rfl)
  omega
 have o:(Lit.int .i64 n).wf=true:=by simp[Lit.wf]; exact h
 have a:∃i,Tryz.prog.keyLits (Tryz.prog.types.size+1) 207 [.int .i64 n, .bool b]=some i:=by
  rw[m]
  generalize Tryz.prog.types.size - 1=d
  simp[Program.keyLits,g,j,e,f,Tryz.underlying3,Tryz.underlying4,o]
 obtain ⟨i,a⟩:=a
 refine ⟨.string (keyBytes i), ?_⟩
 unfold keyOf
 rw[g]
 generalize Tryz.prog.types.size+1=N at a ⊢
 simp[k,Value.formed,g,j,Value.cells,a]
theorem Qnt:KeyL Tryz.prog 207 true Qy where
 K:=Maps.Keyed.of_law (deep_law (m:=3) (by omega) (by kernel_rfl) (by kernel_rfl) (by rw[Tryz.underlying207]))
 flat:=rfl
 rd:=fun v x ⟨cs,w,d,e⟩=>by
  obtain ⟨n,b⟩:=x
  obtain ⟨l,r,rfl,f,a⟩:=e
  obtain ⟨rfl,g⟩:=f
  have a:r=[.bool b]:=a
  subst d a
  exact QmK g
def ixP (ps:List PSt)(p:PSt):Int:=(ps.idxOf p:Nat)
def psP (ps:List PSt)(p:PSt):List PSt:=if p∈ps then ps else ps++[p]
def cdP (c:DSg)(ps:List PSt)(cs:List ByteArray)(p:PSt):List ByteArray:=if p∈ps then cs else cs++[QfF c p.1++⟨#[if p.2 then 49 else 48]⟩]
def QhY:Nat→List PSt→List (PSt×Int)
 | _,[]=>[]
 | n,p :: ps=>(p,(n:Int)) :: QhY (n+1) ps
def YT (ps:List PSt):List (PSt×Int):=QhY 0 ps
section
variable {c:DSg}{ps:List PSt}{p:PSt}{cs:List ByteArray}{n:Nat}{code:ByteArray}
theorem Qrt:Z4 Qy (QhY n ps) p=if p∈ps then some ((n:Int)+ixP ps p) else none:=by
 induction ps generalizing n with
 | nil=>rfl
 | cons q ps f=>
  rw[QhY,Z4,f]
  by_cases e:q=p
  ·subst e
   rw[if_pos (Jt Qy q),if_pos (ax ..)]
   simp[ixP]
  ·rw[if_neg (fun h=>e ((Ty.beq_iff Qy q p).1 h))]
   have b:ixP (q :: ps) p=ixP ps p+1:=by
    simp only[ixP,List.idxOf_cons]
    rw[show (q==p)=false by simpa using e]
    simp
   have a:(p∈q :: ps)↔p∈ps:=by
    rw[aD]
    exact ⟨fun h=>h.resolve_left fun h=>e h.symm, .inr⟩
   by_cases h:p∈ps
   ·rw[if_pos h,if_pos (a.2 h),b]; congr 1; omega
   ·rw[if_neg h,if_neg (fun d=>h (a.1 d))]
theorem QfJ:Z4 Qy (YT ps) p=if p∈ps then some (ixP ps p) else none:=by
 have:=Qrt (n:=0) (ps:=ps) (p:=p)
 simpa [YT] using this
theorem QrF (h:p∉ps):Y2 Qy (QhY n ps) p ((n:Int)+ps.length)=QhY n (ps++[p]):=by
 induction ps generalizing n with
 | nil=>simp[QhY,Y2]
 | cons q ps d=>
  have a:¬q=p:=fun e=>h (by rw[e]; exact ax ..)
  rw[QhY,Y2,if_neg (fun h=>a ((Ty.beq_iff Qy q p).1 h)),cq,QhY,← d fun b=>h (aw _ b)]
  rw[show (n:Int)+((q :: ps).length:Nat)=((n+1:Nat):Int)+(ps.length:Nat) by rw[aj]; omega]
theorem QmW (h:(Z4 Qy (YT ps) p).isSome=true):p∈ps:=by
 rw[QfJ] at h
 by_cases e:p∈ps
 ·exact e
 ·rw[if_neg e] at h; cases h
theorem QdO (h:(Z4 Qy (YT ps) p).isSome=false):p∉ps:=fun e=>by
 rw[QfJ,if_pos e] at h; cases h
theorem Qwr (h:(Z4 Qy (YT ps) p).isSome=true):(Z4 Qy (YT ps) p).getD (Ty.zero .int)=ixP ps p:=by rw[QfJ,if_pos (QmW h)]; rfl
theorem Qr0 (h:(Z4 Qy (YT ps) p).isSome=true):ps=psP ps p:=(if_pos (QmW h)).symm
theorem Qwa (h:(Z4 Qy (YT ps) p).isSome=true):cs=cdP c ps cs p:=(if_pos (QmW h)).symm
theorem QwN (h:(Z4 Qy (YT ps) p).isSome=true):YT ps=YT (psP ps p):=by rw[← Qr0 h]
theorem Qv8 (h:(Z4 Qy (YT ps) p).isSome=false):(ps.length:Int)=ixP ps p:=by unfold ixP; rw[List.idxOf_eq_length (QdO h)]
theorem QrT (h:(Z4 Qy (YT ps) p).isSome=false):ps++[p]=psP ps p:=(if_neg (QdO h)).symm
theorem Qxt (h:(Z4 Qy (YT ps) p).isSome=false)(a:c.2.1[p.1.toNat]? =some code):cs++[code++⟨#[if p.2 then 49 else 48]⟩]=cdP c ps cs p:=by
 unfold cdP
 rw[if_neg (QdO h),Vh a]
theorem Qxw (h:(Z4 Qy (YT ps) p).isSome=false):Y2 Qy (YT ps) p (ps.length:Int)=YT (psP ps p):=by
 rw[← QrT h]
 have:=QrF (n:=0) (QdO h)
 simpa [YT] using this
theorem XV:(psP ps p).length≤ps.length+1:=by unfold psP; split <;> simp
theorem XU:(cdP c ps cs p).length≤cs.length+1:=by unfold cdP; split <;> simp
theorem QhC:0≤ixP ps p∧ixP ps p≤(ps.length:Int):=by have:=List.idxOf_le_length (a:=p) (l:=ps); unfold ixP; omega
end
theorem YR (c:DSg)(b:ByteArray)(ss:List QD)(cs:List ByteArray)(as_:List DAr)(ps:List PSt)(p:KO)(y:0≤p.1∧p.1 < (c.2.1.length:Int))(o:∀x∈c.2.1,x.size≤1000)(t:ps.length≤1000000∧cs.length≤1000000):FC Tryz.prog 196 [(false,[.ptr 0 0]),(true,[dI p.1,dB p.2])] [bx 0 203 [.dat Ql c.1, .dat Qm c.2.1, .dat Qu c.2.2,dS b, .ref 1, .ref 4, .ref 2, .ref 5, .ref 3],ar 1 44 Qz ss,ar 4 9 .str cs,ar 2 46 Qs as_,ar 5 207 Qy ps,(3,some (.mp true Qy false .int (YT ps)))] 4 (Is (lI (ixP ps p)) [bx 0 203 [.dat Ql c.1, .dat Qm c.2.1, .dat Qu c.2.2,dS b, .ref 1, .ref 4, .ref 2, .ref 5, .ref 3],ar 1 44 Qz ss,ar 4 9 .str (cdP c ps cs p),ar 2 46 Qs as_,ar 5 207 Qy (psP ps p),(3,some (.mp true Qy false .int (YT (psP ps p))))]):=by
 refine Qt Tryz.func196 rfl rfl Tryz.ntmps196 fun r h q i s m l=> ?_
 refine acG 1 0 fun _=> ?_
 refine w_ ?_
 refine xbx 6 ?_
 refine w3 ?_
 apply dW (i5 9 _ _ _ _ _ (io 14 (PV.tup [(false,[dI ((Z4 Qy (YT ps) p).getD (Ty.zero .int))]),(false,[dB ((Z4 Qy (YT ps) p).isSome)])]) :: io 8 _ :: i2 15 _ _ (i2 5 _ _ []))) [0,0,0,0,15,0,0,0,128,256,0]
 refine z5 ?_
 refine zz (fun _ a=>ac (Qf4 Qnt Qns QyX (a.v rfl) (a.n 3 rfl) (a.w rfl) (p:=p) rfl rfl rfl) rfl) ?_
 exact y5
 refine w3 ?_
 refine cb_ (fun _=> ?_) fun _=> ?_
 refine w9 ?_
 apply dW (i6 24 _ _ _ _ _ _ [⟨none,lf (.val undef),[(3,some (.mp true Qy false .int (Y2 Qy (YT ps) p (ps.length:Int))))]⟩]) [0,0,0,0,15,31,0]
 refine z6 ?_
 refine zz (fun _ a=>ac (JO Qnt Qns (a.v rfl) (a.n 3 rfl) (a.w rfl) (p:=p) rfl (a.w rfl) (u:=(ps.length:Int)) rfl) rfl) ?_
 exact zN
 apply dW (i6 30 _ _ _ _ _ _ (⟨some 36,lR 7,[ar 7 207 Qy ([(p.1,p.2)])]⟩ :: ⟨some 37,lR 8,[ar 8 207 Qy (ps++([(p.1,p.2)])),(5,none),(7,none)]⟩ :: i2 38 _ _ [⟨none,lf (.val undef),[bx 0 203 [.dat Ql c.1, .dat Qm c.2.1, .dat Qu c.2.2,dS b, .ref 1, .ref 4, .ref 2, .ref 8, .ref 3]]⟩])) [0,1,1,1,1,31,31,1,0,0,0]
 refine z6 ?_
 refine zz (fun _ a=>ac (dBs 7 (e:=Qy) QdR (hab:=by exact ⟨_,_,_,_,rfl,⟨[dI p.1],[dB p.2],_,_,_,_,rfl,rfl,⟨rfl,rfl⟩,⟨rfl,rfl⟩,rfl⟩,⟨rfl,rfl⟩,rfl⟩)) rfl) ?_
 refine zz (fun _ a=>ac (dA 8 Qvj) rfl) ?_
 refine z2 ?_
 refine zz (fun _ a=>ac (QO (a.v rfl) (a.en 0 rfl) (a.w rfl) (by simp only[QQ,Xz,aY,br]; rw[(a.en 8 rfl)]; rfl) Qva rfl) rfl) ?_
 exact zN
 obtain ⟨g,f⟩:=gx c.2.1 ((p.1).toNat)
 have d:=o _ (ah f)
 apply dW (i9 40 _ _ _ _ _ _ _ _ _ (i8 49 _ _ _ _ _ _ _ _ (io 57 (lf (.dat .u8 (if p.2 then 49 else 48))) :: ⟨some 58,lR 9,[ar 9 5 .u8 ([if p.2 then 49 else 48])]⟩ :: io 59 (lf (dS (⟨#[if p.2 then 49 else 48]⟩:ByteArray))) :: io 60 (lf (dS (g++(⟨#[if p.2 then 49 else 48]⟩:ByteArray)))) :: ⟨some 61,lR 10,[ar 10 9 .str ([g++(⟨#[if p.2 then 49 else 48]⟩:ByteArray)])]⟩ :: ⟨some 62,lR 11,[ar 11 9 .str (cs++([g++(⟨#[if p.2 then 49 else 48]⟩:ByteArray)])),(4,none),(10,none)]⟩ :: i3 63 _ _ _ [⟨none,lf (.val undef),[bx 0 203 [.dat Ql c.1, .dat Qm c.2.1, .dat Qu c.2.2,dS b, .ref 1, .ref 11, .ref 2, .ref 8, .ref 3]]⟩]))) [0,1,1,1,1,1,63,63,63,63,63,2047,2047,63,63,32767,32767,32767,32767,32767,63,63,1,0,0,0,0]
 refine z16 ?_
 refine z_ ?_
 refine zz (fun _ a=>ac (dK (QiV p.2) Qlp) rfl) ?_
 refine zz (fun _ a=>ac (dBs 9 (e:= .u8) Qfc) rfl) ?_
 refine zz (fun _ a=>ac (Zm (ys:=[if p.2 then 49 else 48]) (YM (a.v rfl) (a.n 9 rfl)) ZD Vl Zf rfl) rfl)<|zz (fun _ a=>ac (Zn (a.v rfl) (a.v rfl) rfl (by first | omega | (simp only[Xt]; omega))) rfl) ?_
 refine zz (fun _ a=>ac (dBs 10 (e:= .str) Va) rfl) ?_
 refine zz (fun _ a=>ac (dA 11 Js) rfl) ?_
 refine z3 ?_
 refine zz (fun _ a=>ac (QO (a.v rfl) (a.en 0 rfl) (a.w rfl) (by simp only[QQ,Xz,aY,br]; rw[(a.en 11 rfl)]; rfl) Qm5 rfl) rfl) ?_
 exact zN
 refine w5 ?_
 have j:((ps.length:Int):Int)=(ixP ps p):=by
  exact Qv8 ‹_›
 exact fi_ [(4,11),(5,8)] h ⟨rfl,rfl,(Qe (by exact Qxt ‹_› ‹_›)),rfl,(Qe (by exact QrT ‹_›)),(Qpz (by exact Qxw ‹_›)),trivial⟩ (h0:=by rw[j] <;> rfl)
 refine w5 ?_
 have k:((Z4 Qy (YT ps) p).getD (Ty.zero .int):Int)=(ixP ps p):=by
  exact Qwr ‹_›
 exact fi_ [] h ⟨rfl,rfl,(Qe (by exact Qwa ‹_›)),rfl,(Qe (by exact Qr0 ‹_›)),(Qpz (by exact QwN ‹_›)),trivial⟩ (h0:=by rw[k] <;> rfl)
end Go.Proofs.YtgpdhgadmjfokaaGreat
