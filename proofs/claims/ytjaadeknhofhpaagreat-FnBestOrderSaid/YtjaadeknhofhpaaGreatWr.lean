/- Walks over abstract states: valid reachability graphs, dead transitions, deadlocks. -/
import Derived.Test.YtjaadeknhofhpaaGreatWq
set_option linter.unusedSimpArgs false
set_option linter.unusedVariables false
set_option linter.unusedSectionVars false
namespace Go.Proofs.YtjaadeknhofhpaaGreat
open Go.RowKit
set_option maxRecDepth 100000
set_option maxHeartbeats 4000000
abbrev DRg:=List ByteArray×List DMv
instance (n m:Nat) (v:DMv):Decidable (MvOk n m v):=inferInstanceAs (Decidable (_∧_))
def ZL (r:DRg):Prop:=(1≤r.1.length∧r.1.length≤300)∧r.2.length≤4000∧r.1.Nodup∧∀v∈r.2,MvOk r.1.length 24 v
instance (r:DRg):Decidable (ZL r):=inferInstanceAs (Decidable (_∧_))
def H9 (l:List ByteArray):List (ByteArray×Bool):=l.foldl (fun m x=>Wa .str m x true) []
section
variable {r:DRg}{k:Nat}{x y:ByteArray}{v:DMv}{l:List ByteArray}{m:List (ByteArray×Bool)}
theorem QnG:(∃p∈m,p.1=x)∧(Wa .str m x true).length=m.length∧(∀z,(∃p∈Wa .str m x true,p.1=z)↔∃p∈m,p.1=z)∨(¬∃p∈m,p.1=x)∧Wa .str m x true=m++[(x,true)]:=by
  by_cases h:∃p∈m,p.1=x
  · refine .inl ⟨h, ?_⟩
    induction m with
    | nil=>obtain ⟨p,hp,_⟩:=h; cases hp
    | cons q m ih=>
      unfold Wa
      by_cases e:Ty.beq .str q.1 x=true
      · rw [if_pos e]
        have e2:q.1=x:=(Ty.beq_iff .str q.1 x).1 e
        refine ⟨by simp,fun z=> ?_⟩
        simp[e2]
      · rw [if_neg e]
        obtain ⟨p,hp,h2⟩:=h
        rcases aG.1 hp with rfl | hp
        · exact absurd ((Ty.beq_iff .str p.1 x).2 h2) e
        · obtain ⟨h3, h4⟩ := ih ⟨p, hp, h2⟩
          refine ⟨by simp[h3],fun z=> ?_⟩
          constructor
          · rintro ⟨p, hp, e3⟩
            rcases aG.1 hp with rfl | hp
            · exact ⟨p,aA ..,e3⟩
            · obtain ⟨p2, hp2, e2⟩ := (h4 z).1 ⟨p, hp, e3⟩
              exact ⟨p2,aD _ hp2,e2⟩
          · rintro ⟨p, hp, e3⟩
            rcases aG.1 hp with rfl | hp
            · exact ⟨p,aA ..,e3⟩
            · obtain ⟨p2, hp2, e2⟩ := (h4 z).2 ⟨p, hp, e3⟩
              exact ⟨p2,aD _ hp2,e2⟩
  · exact .inr ⟨h,Qfx fun p hp e=>h ⟨p,hp,e⟩⟩
theorem QiN (l:List ByteArray):∀m:List (ByteArray×Bool),(l.foldl (fun m x=>Wa .str m x true) m).length≤m.length+l.length∧((l.foldl (fun m x=>Wa .str m x true) m).length=m.length+l.length↔l.Nodup∧∀x∈l,¬∃p∈m,p.1=x):=by
  induction l with
  | nil=>intro m; simp
  | cons x l ih=>
    intro m
    obtain ⟨h1,h2⟩:=ih (Wa .str m x true)
    simp only[bC,ah]
    rcases QnG (m:=m) (x:=x) with ⟨h3,h4,h5⟩ | ⟨h3,h4⟩
    · rw [h4] at h1
      refine ⟨by omega,⟨fun h=>by omega,fun h=>absurd h3 (h.2 x (aA ..))⟩⟩
    · rw [h4, aa] at h1 h2
      rw[h4]
      simp only[ah,aj] at h1 h2
      refine ⟨by omega,⟨fun h=> ?_,fun h=> ?_⟩⟩
      · obtain ⟨k1, k2⟩ := h2.1 (by omega)
        refine ⟨bz.2 ⟨fun hm=>k2 x hm ⟨(x,true),by simp,rfl⟩,k1⟩,fun y hy=> ?_⟩
        rcases aG.1 hy with rfl | hy
        · exact h3
        · exact fun ⟨p,hp,e⟩=>k2 y hy ⟨p,aT _ hp,e⟩
      · obtain ⟨k1, k2⟩ := h
        have k3:=bz.1 k1
        have:=h2.2 ⟨k3.2,fun y hy ⟨p,hp,e⟩=>by
          rcases aJ.1 hp with hp | hp
          · exact k2 y (aD _ hy) ⟨p,hp,e⟩
          · rw [aM.1 hp] at e
            exact k3.1 (by rw[show x=y from e]; exact hy)⟩
        omega
theorem Qm6 (l:List ByteArray):(H9 l).length≤l.length:=by have:=(QiN l []).1; simpa [H9] using this
theorem QhW (l:List ByteArray):(H9 l).length=l.length↔l.Nodup:=by
  have:=(QiN l []).2
  simpa [H9] using this
theorem QkB (hx:l[k]? =some x):Wa .str (H9 (l.take k)) x true=H9 (l.take (k+1)):=by
  rw[Q0 hx]
  simp[H9]
theorem Qh5 {n q:Nat}{ms:List DMv}(h:∀j,j < k→∀w,ms[j]? =some w→MvOk n q w)(hx:ms[k]? =some v)(hv:MvOk n q v):∀j,j < k+1→∀w,ms[j]? =some w→MvOk n q w:=fun j hj w hw=>by
  by_cases e:j=k
  · subst e; rw[hx] at hw; cases hw; exact hv
  · exact h j (by omega) w hw
theorem Ql0 {n q:Nat}{ms:List DMv}(h:∀j,j < k→∀w,ms[j]? =some w→MvOk n q w)(hk:ms.length≤k):∀w∈ms,MvOk n q w:=fun w hw=>by
  obtain ⟨j,hj⟩:=aS.1 hw
  have:=(au.1 hj).1
  exact h j (by omega) w hj
theorem QbH (h:¬ZL r):false=decide (ZL r):=(aP h).symm
theorem Vh (hx:r.2[k]? =some v)(h:¬MvOk r.1.length 24 v):false=decide (ZL r):=QbH fun g=>h (g.2.2.2 v (ai hx))
theorem Qcx (h:¬((1:Int)≤(r.1.length:Int)∧(r.1.length:Int)≤300)):false=decide (ZL r):=QbH fun g=>h (by have:=g.1; omega)
theorem Qiy (h:(4000:Int) < (r.2.length:Int)):false=decide (ZL r):=QbH fun g=>by have:=g.2.1; omega
theorem Qi6 (hm:m=H9 (r.1.take k))(hk:r.1.length≤k)(h:¬(m.length:Int)=(r.1.length:Int)):false=decide (ZL r):=QbH fun g=>by
  rw[hm,aH hk] at h
  exact h (by rw[(QhW r.1).2 g.2.2.1])
theorem Qou (h1:(1:Int)≤(r.1.length:Int)∧(r.1.length:Int)≤300)(hm:m=H9 (r.1.take k))(hk:r.1.length≤k)(h:(m.length:Int)=(r.1.length:Int))(h2:∀v∈r.2,MvOk r.1.length 24 v):decide ((r.2.length:Int)≤4000)=decide (ZL r):=by
  rw[hm,aH hk] at h
  have h3:=(QhW r.1).1 (by omega)
  refine d7.2 ⟨fun h4=>⟨by omega,by omega,h3,h2⟩,fun g=>by have:=g.2.1; omega⟩
theorem Qoo (h1:(1:Int)≤(r.1.length:Int)∧(r.1.length:Int)≤300)(h4:¬(4000:Int) < (r.2.length:Int))(h3:r.1.Nodup)(h2:∀v∈r.2,MvOk r.1.length 24 v):true=decide (ZL r):=(aK ⟨by omega,by omega,h3,h2⟩).symm
theorem Qio (hx:r.1[k]? =some x)(h:x∈r.1.take k):false=decide (ZL r):=QbH fun g=>by
  have h1:=g.2.2.1
  rw[← bI k r.1,YC hx] at h1
  exact (b7.1 h1).2.2 x h x (aA ..) rfl
theorem QqG (h:(l.take k).Nodup)(hx:l[k]? =some x)(hn:x∉l.take k):(l.take (k+1)).Nodup:=by
  rw[Q0 hx]
  exact b7.2 ⟨h,by simp,fun a ha b hb e=>hn (by rw[← aM.1 hb,← e]; exact ha)⟩
theorem QqC (h:0≤YA l x):x∈l:=by
  unfold YA ZN at h
  cases hf:l.findIdx? (fun y=>decide (y=x)) with
  | none=>rw[hf] at h; simp at h
  | some i=>
    obtain ⟨h1,h2,_⟩:=bO.1 hf
    have:=a8 h2
    rw[← this]
    exact cR h1
end
def WE (f:Int→Bool):Nat→List Int
  | 0=>[]
  | k+1=>WE f k++(if f (k:Int)=true then [] else [(k:Int)])
section
variable {f:Int→Bool}{k n:Nat}{α:Type _}{l:List α}{p:α→Bool}{x:α}
theorem XF (h:f (k:Int)=true):WE f k=WE f (k+1):=by simp[WE,h]
theorem Wx (h:f (k:Int)=false):WE f k++[(k:Int)]=WE f (k+1):=by simp[WE,h]
theorem HG (f:Int→Bool)(k:Nat):(WE f k).length≤k:=by
  induction k with
  | zero=>simp[WE]
  | succ k ih=>simp only[WE,aa]; split <;> simp <;> omega
theorem QiC (hx:l[k]? =some x):(l.take (k+1)).any p=((l.take k).any p||p x):=by rw[Q0 hx]; simp
end
def byT (r:DRg)(t:Int):Bool:=r.2.any fun v=>decide (v.2.1=t)
def WX (r:DRg)(t:Int):Bool:=r.2.any fun v=>decide (v.1=t)
def mfV (r:DRg)(k:Int):List DMv×Bool:=if ZL r∧0≤k∧k < r.1.length then (r.2.filter fun v=>decide (v.1=k),true) else ([],false)
def dlV (r:DRg):List Int×Bool:=if ZL r then (WE (WX r) r.1.length,true) else ([],false)
section
variable [∀s,Decidable (StgOk s)]
def dtV (s:QX)(r:DRg):List Int×Bool:=if StgOk s∧ZL r then (WE (byT r) s.2.2.1.length,true) else ([],false)
theorem Qdi {s:QX}{r:DRg}(h:¬StgOk s):dtV s r=([],false):=if_neg fun g=>h g.1
theorem Qc3 {s:QX}{r:DRg}(h:¬ZL r):dtV s r=([],false):=if_neg fun g=>h g.2
theorem Qdl {s:QX}{r:DRg}(h:StgOk s)(g:ZL r):dtV s r=(WE (byT r) s.2.2.1.length,true):=if_pos ⟨h,g⟩
end
theorem Qhx {r:DRg}(h:¬ZL r):dlV r=([],false):=if_neg h
theorem Qdf {r:DRg}(g:ZL r):dlV r=(WE (WX r) r.1.length,true):=if_pos g
theorem Qla {r:DRg}{k:Int}(h:¬ZL r):mfV r k=([],false):=if_neg fun g=>h g.1
theorem Qln {r:DRg}{k:Int}(h:¬(0≤k∧k≤(r.1.length:Int) - 1)):mfV r k=([],false):=if_neg fun g=>h (by have:=g.2; omega)
theorem QgS {r:DRg}{k:Int}(g:ZL r)(h:0≤k∧k≤(r.1.length:Int) - 1):mfV r k=(r.2.filter fun v=>decide (v.1=k),true):=if_pos ⟨g,by omega⟩
theorem Qh8 {r:DRg}{k:Nat}(g:ZL r)(hk:k < r.1.length):WX r (k:Int)= !decide (((mfV r (k:Int)).1.length:Int)=0):=by
  rw[QgS g (by omega)]
  unfold WX
  rw[bY]
  simp[bm,List.length_eq_zero_iff]
theorem Qsm {r:DRg}{k:Nat}(g:ZL r)(hk:k < r.1.length)(h:decide (((mfV r (k:Int)).1.length:Int)=0)=false):WX r (k:Int)=true:=by rw[Qh8 g hk,h]; rfl
theorem Qs2 {r:DRg}{k:Nat}(g:ZL r)(hk:k < r.1.length)(h:decide (((mfV r (k:Int)).1.length:Int)=0)=true):WX r (k:Int)=false:=by rw[Qh8 g hk,h]; rfl
def Qcs (k:Int)(ms:List DMv):List DMv:=ms.filter fun v=>decide (v.1=k)
theorem Qmh {k:Int}{ms:List DMv}{n:Nat}(i:Nat)(h:ms.length≤n):(Qcs k (ms.take i)).length≤n:=b5 (bQ ..) (b5 (by rw[ab]; exact Nat.min_le_right _ _) h)
theorem QiX {ms:List DMv}{i:Nat}{v:DMv}{k:Int}(hx:ms[i]? =some v)(h:decide (v.1=k)=true):Qcs k (ms.take i)++[v]=Qcs k (ms.take (i+1)):=by
  unfold Qcs
  rw[Q0 hx,bc]; simp[h]
theorem QkW {ms:List DMv}{i:Nat}{v:DMv}{k:Int}(hx:ms[i]? =some v)(h:decide (v.1=k)=false):Qcs k (ms.take i)=Qcs k (ms.take (i+1)):=by
  unfold Qcs
  rw[Q0 hx,bc]; simp[h]
theorem Jp (r:List ByteArray×(List (Int×Int×Int))):FC Tryz.prog 311 [(true,[.dat Zr r.1, .dat Xu r.2])] [] 0 (Yj (lB (decide (ZL r)))):=by
 refine QO Tryz.func311 rfl rfl Tryz.ntmps311 fun O_ hO w0_ N0_ X_ h0_ f0_=> ?_
 refine w_ ?_
 refine lc (Qy 0 (Qb rfl) rfl rfl (Fresh.of rfl) (nlr rfl)) ?_
 iterate 5 refine w_ ?_
 refine AL.fact (Qo (x:= .tmp 10) (Qa rfl)) fun hl1=> ?_
 iterate 8 refine w_ ?_
 refine AL.fact (Qo (x:= .tmp 14) (Qa rfl)) fun hl2=> ?_
 iterate 4 refine w_ ?_
 refine Qu (fun m_ s_=>∃(k:Nat),k≤r.2.length∧m_=r.2.length - k∧(∀j,j < k→∀w,r.2[j]? =some w→MvOk r.1.length 24 w)∧s_=⟨[(1,lP 0 0),(3,lI ((r.1.length:Int) - 1)),(14,lf (.dat Xu r.2)),(15,lI (r.2.length:Int)),(16,lI (k:Int))],[(0,some (.box 164 [.dat Zr r.1, .dat Xu r.2]))]⟩) ⟨0,aw _,rfl,(fun j hj=>absurd hj (bK j)),rfl⟩ ?_ ?_
 exact wo [(0,0)]
 rintro m_ s_ ⟨k,hk3,hm4,hM,rfl⟩
 iterate 4 refine w_ ?_
 cases hb5:(decide ((k:Int) < (r.2.length:Int)))
 have hb5':=a7 hb5
 iterate 4 refine w_ ?_
 refine lc (QaZ (kt:=9) (et:=4) (kb:=false) (k:= .str) (vb:=false) (v:= .bool) 1 rfl (Fresh.of rfl) (nlr rfl)) ?_
 iterate 6 refine w_ ?_
 refine AL.fact (Qo (x:= .tmp 41) (Qa rfl)) fun hl6=> ?_
 iterate 4 refine w_ ?_
 refine Qu (fun m_ s_=>∃(i:Nat) (sm:List (ByteArray×Bool)),i≤r.1.length∧m_=r.1.length - i∧(sm=H9 (r.1.take i))∧s_=⟨[(1,lP 0 0),(6,lR 2),(41,lf (.dat Zr r.1)),(42,lI (r.1.length:Int)),(43,lI (i:Int))],[(0,some (.box 164 [.dat Zr r.1, .dat Xu r.2])),(2,some (.mp false .str false .bool sm))]⟩) ⟨0,[],aw _,rfl,rfl,rfl⟩ ?_ ?_
 exact wp [(0,0),(2,1)] ⟨rfl,(QqI (by first | rfl | simp)),trivial⟩
 rintro m_ s_ ⟨i,sm,hk7,hm8,hS,rfl⟩
 iterate 4 refine w_ ?_
 cases hb9:(decide ((i:Int) < (r.1.length:Int)))
 have hb9':=a7 hb9
 iterate 3 refine w_ ?_
 refine YY ?_
 have hsl:sm.length≤r.1.length:=by rw[hS]; exact b5 (Qm6 _) (by rw[ab]; exact Nat.min_le_right _ _)
 iterate 3 refine w_ ?_
 refine AL.fact (Qo (x:= .tmp 51) (Qa rfl)) fun hl10=> ?_
 refine w_ ?_
 refine lc (Ql (YP (r.1.length:Int) 1 300) W9 ⟨_,_,rfl,(Qb rfl),⟨_,_,rfl,(Evl.ev (Qv rfl)),⟨_,_,rfl,(Evl.ev (Qv rfl)),rfl⟩⟩⟩ rfl rfl) ?_
 refine w_ ?_
 cases hb11:(decide (1≤(r.1.length:Int)∧(r.1.length:Int)≤300))
 have hb11':=a7 hb11
 iterate 16 refine w_ ?_
 subst hO
 have e12:(false:Bool)=(decide (ZL r)):=by
  exact Qcx ‹_›
 exact Qi (Qg rfl (Qd rfl)) (by rw[← e12] <;> rfl) rfl
 have hb11':=a8 hb11
 refine w_ ?_
 refine lgy rfl rfl (Qmi (Qa rfl) rfl Ql3 (by omega) rfl) ?_
 iterate 2 refine w_ ?_
 refine AL.fact (Qo (x:= .tmp 58) (Qa rfl)) fun hl13=> ?_
 iterate 4 refine w_ ?_
 cases hb14:(decide ((sm.length:Int)=(r.1.length:Int)))
 have hb14':=a7 hb14
 iterate 8 refine w_ ?_
 subst hO
 have e15:(false:Bool)=(decide (ZL r)):=by
  exact Qi6 hS (by omega) ‹_›
 exact Qi (Qg rfl (Qd rfl)) (by rw[← e15] <;> rfl) rfl
 have hb14':=a8 hb14
 iterate 2 refine w_ ?_
 refine AL.fact (Qo (x:= .tmp 64) (Qa rfl)) fun hl16=> ?_
 iterate 6 refine w_ ?_
 subst hO
 have e17:(decide ((r.2.length:Int)≤4000):Bool)=(decide (ZL r)):=by
  exact Qou ‹_› hS (by omega) ‹_› (Ql0 hM (by omega))
 exact Qi (Qg rfl (Qd rfl)) (by rw[e17] <;> rfl) rfl
 have hb9':=a8 hb9
 iterate 5 refine w_ ?_
 obtain ⟨x18,hx19⟩:=gx r.1 i
 refine lc (Qh (Qa rfl) (Qa rfl) Zo Zg rfl (by omega) hx19) ?_
 iterate 6 refine w_ ?_
 refine lc (JS Qlq Ql3 (Qa rfl) rfl (Qb rfl) (p:=x18) rfl (Evl.ev Xh) (u:=true) rfl)<|Qm ?_
 iterate 4 refine w_ ?_
 refine Qm<|QV ⟨i+1,(Wa .str sm x18 true),by omega,rfl,(by rw[hS]; exact QkB hx19),rfl⟩ (by omega) ?_
 exact wp [(0,0),(2,2)] ⟨rfl,(QqI (by first | rfl | simp)),trivial⟩
 have hb5':=a8 hb5
 iterate 5 refine w_ ?_
 obtain ⟨x20,hx21⟩:=gx r.2 k
 refine lc (Qh (Qa rfl) (Qa rfl) Ys Yc rfl (by omega) hx21) ?_
 refine w_ ?_
 refine lc (Qj 3 ZZ Xm rfl rfl (Fresh.of rfl) (nlr rfl))<|lc (Qc (Qa rfl) rfl (Qb rfl) rfl Yc rfl) ?_
 iterate 4 refine w_ ?_
 refine AL.fact (QC (x:= .tmp 21) (Qa rfl)) fun hi22=> ?_
 refine w_ ?_
 refine lc (Ql (YP x20.1 0 ((r.1.length:Int) - 1)) W9 ⟨_,_,rfl,(Qb rfl),⟨_,_,rfl,(Evl.ev (Qv rfl)),⟨_,_,rfl,(Qb rfl),rfl⟩⟩⟩ rfl rfl) ?_
 iterate 2 refine w_ ?_
 cases hb23:(decide (0≤x20.1∧x20.1≤((r.1.length:Int) - 1)))
 have hb23':=a7 hb23
 iterate 18 refine w_ ?_
 subst hO
 have e24:(false:Bool)=(decide (ZL r)):=by
  exact Vh hx21 (by unfold MvOk; omega)
 exact Qi (Qg rfl (Qd rfl)) (by rw[← e24] <;> rfl) rfl
 have hb23':=a8 hb23
 iterate 3 refine w_ ?_
 refine lgy rfl rfl (Ql (YP x20.2.2 0 ((r.1.length:Int) - 1)) W9 ⟨_,_,rfl,(Qb rfl),⟨_,_,rfl,(Evl.ev (Qv rfl)),⟨_,_,rfl,(Qb rfl),rfl⟩⟩⟩ rfl rfl) ?_
 iterate 3 refine w_ ?_
 cases hb25:(decide (0≤x20.2.2∧x20.2.2≤((r.1.length:Int) - 1)))
 have hb25':=a7 hb25
 iterate 11 refine w_ ?_
 subst hO
 have e26:(false:Bool)=(decide (ZL r)):=by
  exact Vh hx21 (by unfold MvOk; omega)
 exact Qi (Qg rfl (Qd rfl)) (by rw[← e26] <;> rfl) rfl
 have hb25':=a8 hb25
 iterate 2 refine w_ ?_
 refine lgy rfl rfl (Ql (YP x20.2.1 0 23) W9 ⟨_,_,rfl,(Qb rfl),⟨_,_,rfl,(Evl.ev (Qv rfl)),⟨_,_,rfl,(Evl.ev (Qv rfl)),rfl⟩⟩⟩ rfl rfl) ?_
 iterate 3 refine w_ ?_
 cases hb27:(decide (0≤x20.2.1∧x20.2.1≤23))
 have hb27':=a7 hb27
 iterate 5 refine w_ ?_
 subst hO
 have e28:(false:Bool)=(decide (ZL r)):=by
  exact Vh hx21 (by unfold MvOk; omega)
 exact Qi (Qg rfl (Qd rfl)) (by rw[← e28] <;> rfl) rfl
 have hb27':=a8 hb27
 iterate 6 refine w_ ?_
 refine Qm<|QV ⟨k+1,by omega,rfl,(Qh5 hM hx21 (by unfold MvOk; omega)),rfl⟩ (by omega) ?_
 exact wo [(0,0)]
theorem Up (r:List ByteArray×(List (Int×Int×Int))):FC Tryz.prog 315 [(true,[.dat Zr r.1, .dat Xu r.2])] [] 0 (Yj (lB (decide (ZL r)))):=by
 refine QO Tryz.func315 rfl rfl Tryz.ntmps315 fun O_ hO w0_ N0_ X_ h0_ f0_=> ?_
 refine w_ ?_
 refine lc (Qy 0 (Qb rfl) rfl rfl (Fresh.of rfl) (nlr rfl)) ?_
 iterate 6 refine w_ ?_
 refine AL.fact (Qo (x:= .tmp 8) (Qa rfl)) fun hl1=> ?_
 refine w_ ?_
 refine lc (Ql (Xo (r.1.length:Int) 1 300) Wi ⟨_,_,rfl,(Qb rfl),⟨_,_,rfl,(Evl.ev (Qv rfl)),⟨_,_,rfl,(Evl.ev (Qv rfl)),rfl⟩⟩⟩ rfl rfl) ?_
 iterate 2 refine w_ ?_
 cases hb2:(decide (1≤(r.1.length:Int)∧(r.1.length:Int)≤300))
 have hb2':=a7 hb2
 iterate 11 refine w_ ?_
 subst hO
 have e3:(false:Bool)=(decide (ZL r)):=by
  exact Qcx ‹_›
 exact Qi (Qg rfl (Qd rfl)) (by rw[← e3] <;> rfl) rfl
 have hb2':=a8 hb2
 iterate 2 refine w_ ?_
 refine AL.fact (Qo (x:= .tmp 14) (Qa rfl)) fun hl4=> ?_
 iterate 4 refine w_ ?_
 cases hb5:(decide (4000 < (r.2.length:Int)))
 have hb5':=a7 hb5
 iterate 6 refine w_ ?_
 refine AL.fact (Qo (x:= .tmp 19) (Qa rfl)) fun hl6=> ?_
 iterate 4 refine w_ ?_
 refine Qu (fun m_ s_=>∃(i:Nat),i≤r.1.length∧m_=r.1.length - i∧((r.1.take i).Nodup)∧s_=⟨[(1,lP 0 0),(19,lf (.dat Zr r.1)),(20,lI (r.1.length:Int)),(21,lI (i:Int))],[(0,some (.box 164 [.dat Zr r.1, .dat Xu r.2]))]⟩) ⟨0,aw _,rfl,bH,rfl⟩ ?_ ?_
 exact wo [(0,0)]
 rintro m_ s_ ⟨i,hk7,hm8,hD,rfl⟩
 iterate 4 refine w_ ?_
 cases hb9:(decide ((i:Int) < (r.1.length:Int)))
 have hb9':=a7 hb9
 iterate 7 refine w_ ?_
 refine AL.fact (Qo (x:= .tmp 35) (Qa rfl)) fun hl10=> ?_
 iterate 4 refine w_ ?_
 refine Qu (fun m_ s_=>∃(k:Nat),k≤r.2.length∧m_=r.2.length - k∧(∀j,j < k→∀w,r.2[j]? =some w→MvOk r.1.length 24 w)∧s_=⟨[(1,lP 0 0),(35,lf (.dat Xu r.2)),(36,lI (r.2.length:Int)),(37,lI (k:Int))],[(0,some (.box 164 [.dat Zr r.1, .dat Xu r.2]))]⟩) ⟨0,aw _,rfl,(fun j hj=>absurd hj (bK j)),rfl⟩ ?_ ?_
 exact wo [(0,0)]
 rintro m_ s_ ⟨k,hk11,hm12,hM,rfl⟩
 iterate 4 refine w_ ?_
 cases hb13:(decide ((k:Int) < (r.2.length:Int)))
 have hb13':=a7 hb13
 iterate 7 refine w_ ?_
 subst hO
 have e14:(true:Bool)=(decide (ZL r)):=by
  exact Qoo ‹_› ‹_› (by rw[ZF (by omega)] at hD; exact hD) (Ql0 hM (by omega))
 exact Qi (Qg rfl (Qd rfl)) (by rw[← e14] <;> rfl) rfl
 have hb13':=a8 hb13
 iterate 5 refine w_ ?_
 obtain ⟨x15,hx16⟩:=gx r.2 k
 refine lc (Qh (Qa rfl) (Qa rfl) Ys Yc rfl (by omega) hx16) ?_
 refine w_ ?_
 refine lc (Qj 1 ZZ Xm rfl rfl (Fresh.of rfl) (nlr rfl))<|lc (Qc (Qa rfl) rfl (Qb rfl) rfl Yc rfl) ?_
 iterate 4 refine w_ ?_
 refine AL.fact (QC (x:= .tmp 42) (Qa rfl)) fun hi17=> ?_
 iterate 2 refine w_ ?_
 refine AL.fact (Qo (x:= .tmp 44) (Qa rfl)) fun hl18=> ?_
 iterate 2 refine w_ ?_
 refine lc (Ql (Xo x15.1 0 ((r.1.length:Int) - 1)) Wi ⟨_,_,rfl,(Qb rfl),⟨_,_,rfl,(Evl.ev (Qv rfl)),⟨_,_,rfl,(Qb rfl),rfl⟩⟩⟩ rfl rfl) ?_
 iterate 2 refine w_ ?_
 cases hb19:(decide (0≤x15.1∧x15.1≤((r.1.length:Int) - 1)))
 have hb19':=a7 hb19
 iterate 21 refine w_ ?_
 subst hO
 have e20:(false:Bool)=(decide (ZL r)):=by
  exact Vh hx16 (by unfold MvOk; omega)
 exact Qi (Qg rfl (Qd rfl)) (by rw[← e20] <;> rfl) rfl
 have hb19':=a8 hb19
 iterate 4 refine w_ ?_
 refine AL.fact (Qo (x:= .tmp 53) (Qa rfl)) fun hl21=> ?_
 iterate 2 refine w_ ?_
 refine lgy rfl rfl (Ql (Xo x15.2.2 0 ((r.1.length:Int) - 1)) Wi ⟨_,_,rfl,(Qb rfl),⟨_,_,rfl,(Evl.ev (Qv rfl)),⟨_,_,rfl,(Qb rfl),rfl⟩⟩⟩ rfl rfl) ?_
 iterate 3 refine w_ ?_
 cases hb22:(decide (0≤x15.2.2∧x15.2.2≤((r.1.length:Int) - 1)))
 have hb22':=a7 hb22
 iterate 11 refine w_ ?_
 subst hO
 have e23:(false:Bool)=(decide (ZL r)):=by
  exact Vh hx16 (by unfold MvOk; omega)
 exact Qi (Qg rfl (Qd rfl)) (by rw[← e23] <;> rfl) rfl
 have hb22':=a8 hb22
 iterate 2 refine w_ ?_
 refine lgy rfl rfl (Ql (Xo x15.2.1 0 23) Wi ⟨_,_,rfl,(Qb rfl),⟨_,_,rfl,(Evl.ev (Qv rfl)),⟨_,_,rfl,(Evl.ev (Qv rfl)),rfl⟩⟩⟩ rfl rfl) ?_
 iterate 3 refine w_ ?_
 cases hb24:(decide (0≤x15.2.1∧x15.2.1≤23))
 have hb24':=a7 hb24
 iterate 5 refine w_ ?_
 subst hO
 have e25:(false:Bool)=(decide (ZL r)):=by
  exact Vh hx16 (by unfold MvOk; omega)
 exact Qi (Qg rfl (Qd rfl)) (by rw[← e25] <;> rfl) rfl
 have hb24':=a8 hb24
 iterate 6 refine w_ ?_
 refine Qm<|QV ⟨k+1,by omega,rfl,(Qh5 hM hx16 (by unfold MvOk; omega)),rfl⟩ (by omega) ?_
 exact wo [(0,0)]
 have hb9':=a8 hb9
 iterate 6 refine w_ ?_
 obtain ⟨x26,hx27⟩:=gx r.1 i
 refine lc (Qh (Qa rfl) (Qa rfl) Zo Zg rfl (by omega) hx27) ?_
 iterate 8 refine w_ ?_
 refine lc (UH (l:=none) (h:=(some (i:Int))) (Qa rfl) (by exact trivial) (by exact (Qa rfl)) Zo Zg rfl (by simp only[ao,ak]; omega) (by simp only[ao,ak]; omega) (by simp only[ao,ak]; omega)) ?_
 refine w_ ?_
 refine lc (Ql (JF ((r.1.take ((i:Int)).toNat).drop 0) x26) Qd2 ⟨_,_,rfl,(Qb rfl),⟨_,_,rfl,(Qb rfl),rfl⟩⟩ rfl rfl) ?_
 iterate 2 refine w_ ?_
 cases hb28:(decide (0≤(YA ((r.1.take ((i:Int)).toNat).drop 0) x26)))
 have hb28':=a7 hb28
 iterate 6 refine w_ ?_
 refine Qm<|QV ⟨i+1,by omega,rfl,(QqG hD hx27 (fun hm=>by have:=Qfy (l:=r.1.take i) ‹_›; exact this hm)),rfl⟩ (by omega) ?_
 exact wo [(0,0)]
 have hb28':=a8 hb28
 iterate 5 refine w_ ?_
 subst hO
 have e29:(false:Bool)=(decide (ZL r)):=by
  exact Qio hx27 (QqC (l:=r.1.take i) ‹_›)
 exact Qi (Qg rfl (Qd rfl)) (by rw[← e29] <;> rfl) rfl
 have hb5':=a8 hb5
 iterate 5 refine w_ ?_
 subst hO
 have e30:(false:Bool)=(decide (ZL r)):=by
  exact Qiy ‹_›
 exact Qi (Qg rfl (Qd rfl)) (by rw[← e30] <;> rfl) rfl
theorem Uy (m:Int×Int×Int)(t:Int):FC Tryz.prog 313 [(true,[dI m.1,dI m.2.1,dI m.2.2]),(false,[.ptr 0 0])] [(0,some (.box 3 [dI t]))] 1 (Is (lB (decide (m.2.1=t))) [(0,some (.box 3 [dI t]))]):=by
 refine QO Tryz.func313 rfl rfl Tryz.ntmps313 fun O_ hO w0_ N0_ X_ h0_ f0_=> ?_
 refine AC.fact (QI (x:= .tmp 0) (i:=0) (Qb rfl) rfl) fun hi1=>AC.fact (QI (x:= .tmp 0) (i:=1) (Qb rfl) rfl) fun hi2=>AC.fact (QI (x:= .tmp 0) (i:=2) (Qb rfl) rfl) fun hi3=> ?_
 refine w_ ?_
 refine lc (Qy 1 (Qb rfl) rfl rfl (Fresh.of rfl) (nlr rfl)) ?_
 iterate 6 refine w_ ?_
 refine AL.fact (QC (x:= .tmp 6) (Qa rfl)) fun hi4=> ?_
 iterate 4 refine w_ ?_
 subst hO
 exact QD _ _ [(0,0)] (Qg rfl (Qd rfl)) (rfl) ⟨rfl,trivial⟩ rfl rfl
theorem J1 (s:List (Int×Int×Int))(t:Int):FC Tryz.prog 357 [(false,[.dat Xu s]),(false,[.clo 313 [0]])] [(0,some (.box 3 [dI t]))] 1 (Is (lI (ZN (fun v:DMv=>decide (v.2.1=t)) s)) [(0,some (.box 3 [dI t]))]):=by
 refine QO Tryz.func357 rfl rfl Tryz.ntmps357 fun O_ hO w0_ N0_ X_ h0_ f0_=> ?_
 iterate 6 refine w_ ?_
 refine AL.fact (Qo (x:= .tmp 6) (Qa rfl)) fun hl1=> ?_
 iterate 4 refine w_ ?_
 refine Qu (fun m_ s_=>∃(k:Nat),k≤s.length∧m_=s.length - k∧(NoneTo (fun v:DMv=>decide (v.2.1=t)) s k)∧s_=⟨[(0,lf (.dat Xu s)),(1,lf (.clo 313 [0])),(7,lI (s.length:Int)),(8,lI (k:Int))],[(0,some (.box 3 [dI t]))]⟩) ⟨0,aw _,rfl,NoneTo.zero,rfl⟩ ?_ ?_
 exact wo [(0,0)]
 rintro m_ s_ ⟨k,hk2,hm3,hno,rfl⟩
 iterate 4 refine w_ ?_
 cases hb4:(decide ((k:Int) < (s.length:Int)))
 have hb4':=a7 hb4
 iterate 7 refine w_ ?_
 subst hO
 have e5:((-1):Int)=(ZN (fun v:DMv=>decide (v.2.1=t)) s):=by
  first | exact (hno.no (by omega)).symm
 exact QD _ _ [(0,0)] (Qg rfl (Qd rfl)) (by rw[← e5] <;> rfl) ⟨rfl,trivial⟩ rfl rfl
 have hb4':=a8 hb4
 iterate 12 refine w_ ?_
 obtain ⟨x6,hx7⟩:=gx s k
 refine lc (Qh (Qa rfl) (Qa rfl) Ys Yc rfl (by omega) hx7) ?_
 refine w_ ?_
 refine lc (Wh (args0:=[(true,[dI x6.1,dI x6.2.1,dI x6.2.2])]) (caps:=[0]) 1 [(0,0)] (Uy x6 t) QkU rfl (Qa rfl) rfl rfl ⟨_,_,rfl,(Qb rfl),rfl⟩ ⟨rfl,trivial⟩ rfl ⟨trivial,trivial⟩ (nlr rfl)) ?_
 refine w_ ?_
 cases hb8:(decide (x6.2.1=t))
 have hb8':=a7 hb8
 iterate 6 refine w_ ?_
 refine Qm<|QV ⟨k+1,by omega,rfl,hno.step hx7 ‹_›,rfl⟩ (by omega) ?_
 exact wo [(0,0)]
 have hb8':=a8 hb8
 iterate 6 refine w_ ?_
 subst hO
 have e9:((k:Int):Int)=(ZN (fun v:DMv=>decide (v.2.1=t)) s):=by
  exact (hno.at hx7 ‹_›).symm
 exact QD _ _ [(0,0)] (Qg rfl (Qd rfl)) (by rw[e9] <;> rfl) ⟨rfl,trivial⟩ rfl rfl
theorem Kf (s:List (Int×Int×Int))(t:Int):FC Tryz.prog 312 [(false,[.dat Xu s]),(false,[.clo 313 [0]])] [(0,some (.box 3 [dI t]))] 1 (Is (lB (s.any (fun v:DMv=>decide (v.2.1=t)))) [(0,some (.box 3 [dI t]))]):=by
 refine QO Tryz.func312 rfl rfl Tryz.ntmps312 fun O_ hO w0_ N0_ X_ h0_ f0_=> ?_
 iterate 6 refine w_ ?_
 refine lc (QK 1 [(0,0)] (J1 s t) QeC ⟨_,_,rfl,(Qb rfl),⟨_,_,rfl,(Qb rfl),rfl⟩⟩ ⟨rfl,trivial⟩ rfl ⟨trivial,trivial⟩ (nlr rfl)) ?_
 iterate 4 refine w_ ?_
 subst hO
 have e1:(decide (0≤(ZN (fun v:DMv=>decide (v.2.1=t)) s)):Bool)=(s.any (fun v:DMv=>decide (v.2.1=t))):=by
  exact Vx _ _
 exact QD _ _ [(0,0)] (Qg rfl (Qd rfl)) (by rw[e1] <;> rfl) ⟨rfl,trivial⟩ rfl rfl
theorem HV (m:Int×Int×Int)(q:Int):FC Tryz.prog 314 [(true,[dI m.1,dI m.2.1,dI m.2.2]),(false,[.ptr 0 0])] [(0,some (.box 3 [dI q]))] 1 (Is (lB (decide (m.1=q))) [(0,some (.box 3 [dI q]))]):=by
 refine QO Tryz.func314 rfl rfl Tryz.ntmps314 fun O_ hO w0_ N0_ X_ h0_ f0_=> ?_
 refine AC.fact (QI (x:= .tmp 0) (i:=0) (Qb rfl) rfl) fun hi1=>AC.fact (QI (x:= .tmp 0) (i:=1) (Qb rfl) rfl) fun hi2=>AC.fact (QI (x:= .tmp 0) (i:=2) (Qb rfl) rfl) fun hi3=> ?_
 refine w_ ?_
 refine lc (Qy 1 (Qb rfl) rfl rfl (Fresh.of rfl) (nlr rfl)) ?_
 iterate 6 refine w_ ?_
 refine AL.fact (QC (x:= .tmp 6) (Qa rfl)) fun hi4=> ?_
 iterate 4 refine w_ ?_
 subst hO
 exact QD _ _ [(0,0)] (Qg rfl (Qd rfl)) (rfl) ⟨rfl,trivial⟩ rfl rfl
theorem Jf (s:List (Int×Int×Int))(q:Int):FC Tryz.prog 357 [(false,[.dat Xu s]),(false,[.clo 314 [0]])] [(0,some (.box 3 [dI q]))] 1 (Is (lI (ZN (fun v:DMv=>decide (v.1=q)) s)) [(0,some (.box 3 [dI q]))]):=by
 refine QO Tryz.func357 rfl rfl Tryz.ntmps357 fun O_ hO w0_ N0_ X_ h0_ f0_=> ?_
 iterate 6 refine w_ ?_
 refine AL.fact (Qo (x:= .tmp 6) (Qa rfl)) fun hl1=> ?_
 iterate 4 refine w_ ?_
 refine Qu (fun m_ s_=>∃(k:Nat),k≤s.length∧m_=s.length - k∧(NoneTo (fun v:DMv=>decide (v.1=q)) s k)∧s_=⟨[(0,lf (.dat Xu s)),(1,lf (.clo 314 [0])),(7,lI (s.length:Int)),(8,lI (k:Int))],[(0,some (.box 3 [dI q]))]⟩) ⟨0,aw _,rfl,NoneTo.zero,rfl⟩ ?_ ?_
 exact wo [(0,0)]
 rintro m_ s_ ⟨k,hk2,hm3,hno,rfl⟩
 iterate 4 refine w_ ?_
 cases hb4:(decide ((k:Int) < (s.length:Int)))
 have hb4':=a7 hb4
 iterate 7 refine w_ ?_
 subst hO
 have e5:((-1):Int)=(ZN (fun v:DMv=>decide (v.1=q)) s):=by
  first | exact (hno.no (by omega)).symm
 exact QD _ _ [(0,0)] (Qg rfl (Qd rfl)) (by rw[← e5] <;> rfl) ⟨rfl,trivial⟩ rfl rfl
 have hb4':=a8 hb4
 iterate 12 refine w_ ?_
 obtain ⟨x6,hx7⟩:=gx s k
 refine lc (Qh (Qa rfl) (Qa rfl) Ys Yc rfl (by omega) hx7) ?_
 refine w_ ?_
 refine lc (Wh (args0:=[(true,[dI x6.1,dI x6.2.1,dI x6.2.2])]) (caps:=[0]) 1 [(0,0)] (HV x6 q) Qjz rfl (Qa rfl) rfl rfl ⟨_,_,rfl,(Qb rfl),rfl⟩ ⟨rfl,trivial⟩ rfl ⟨trivial,trivial⟩ (nlr rfl)) ?_
 refine w_ ?_
 cases hb8:(decide (x6.1=q))
 have hb8':=a7 hb8
 iterate 6 refine w_ ?_
 refine Qm<|QV ⟨k+1,by omega,rfl,hno.step hx7 ‹_›,rfl⟩ (by omega) ?_
 exact wo [(0,0)]
 have hb8':=a8 hb8
 iterate 6 refine w_ ?_
 subst hO
 have e9:((k:Int):Int)=(ZN (fun v:DMv=>decide (v.1=q)) s):=by
  exact (hno.at hx7 ‹_›).symm
 exact QD _ _ [(0,0)] (Qg rfl (Qd rfl)) (by rw[e9] <;> rfl) ⟨rfl,trivial⟩ rfl rfl
theorem UA (s:List (Int×Int×Int))(q:Int):FC Tryz.prog 312 [(false,[.dat Xu s]),(false,[.clo 314 [0]])] [(0,some (.box 3 [dI q]))] 1 (Is (lB (s.any (fun v:DMv=>decide (v.1=q)))) [(0,some (.box 3 [dI q]))]):=by
 refine QO Tryz.func312 rfl rfl Tryz.ntmps312 fun O_ hO w0_ N0_ X_ h0_ f0_=> ?_
 iterate 6 refine w_ ?_
 refine lc (QK 1 [(0,0)] (Jf s q) QeC ⟨_,_,rfl,(Qb rfl),⟨_,_,rfl,(Qb rfl),rfl⟩⟩ ⟨rfl,trivial⟩ rfl ⟨trivial,trivial⟩ (nlr rfl)) ?_
 iterate 4 refine w_ ?_
 subst hO
 have e1:(decide (0≤(ZN (fun v:DMv=>decide (v.1=q)) s)):Bool)=(s.any (fun v:DMv=>decide (v.1=q))):=by
  exact Vx _ _
 exact QD _ _ [(0,0)] (Qg rfl (Qd rfl)) (by rw[e1] <;> rfl) ⟨rfl,trivial⟩ rfl rfl
theorem KA (s:(Int×(List (List Int×List Int)))×(List (ByteArray×Int))×(List (Int×Bool))×ByteArray)(r:List ByteArray×(List (Int×Int×Int)))[∀s,Decidable (StgOk s)]:FC Tryz.prog 234 [(true,[dI s.1.1, .dat QZ s.1.2, .dat QJ s.2.1, .dat QR s.2.2.1,dS s.2.2.2]),(true,[.dat Zr r.1, .dat Xu r.2])] [] 0 (Is (PV.tup [(false,[.ref 0]),(false,[dB ((dtV s r).2)])]) [(0,some (.arr 3 .int ((dtV s r).1)))]):=by
 refine QO Tryz.func234 rfl rfl Tryz.ntmps234 fun O_ hO w0_ N0_ X_ h0_ f0_=> ?_
 refine AC.fact (QI (x:= .tmp 0) (i:=0) (Qb rfl) rfl) fun hi1=> ?_
 refine w_ ?_
 refine lc (Qy 0 (Qb rfl) rfl rfl (Fresh.of rfl) (nlr rfl))<|lc (Qy 1 (Qb rfl) rfl rfl (Fresh.of rfl) (nlr rfl)) ?_
 iterate 6 refine w_ ?_
 refine lc (Ql (YQ s) KE ⟨_,_,rfl,(Qb rfl),rfl⟩ rfl rfl) ?_
 iterate 2 refine w_ ?_
 cases hb2:(decide (StgOk s))
 have hb2':=a7 hb2
 iterate 10 refine w_ ?_
 refine AC.wk (Wk.nilS 2 4 3 .int rfl (Fresh.of rfl) (nlr rfl))<|Q4 ?_
 subst hO
 have e3:(false:Bool)=((dtV s r).2):=by
  (rw[Qdi ‹_›]; done)
 exact QD _ _ [(0,2)] (QB rfl (Qd rfl) (Qd rfl)) (by rw[← e3] <;> rfl) ⟨(Qp (by (rw[Qdi ‹_›]; done))),trivial⟩ rfl rfl
 have hb2':=a8 hb2
 refine w_ ?_
 refine lgy rfl rfl (Ql (Jp r) QdZ ⟨_,_,rfl,(Qb rfl),rfl⟩ rfl rfl) ?_
 iterate 3 refine w_ ?_
 cases hb4:(decide (ZL r))
 have hb4':=a7 hb4
 iterate 5 refine w_ ?_
 refine AC.wk (Wk.nilS 3 4 3 .int rfl (Fresh.of rfl) (nlr rfl))<|Q4 ?_
 subst hO
 have e5:(false:Bool)=((dtV s r).2):=by
  (rw[Qc3 ‹_›]; done)
 exact QD _ _ [(0,3)] (QB rfl (Qd rfl) (Qd rfl)) (by rw[← e5] <;> rfl) ⟨(Qp (by (rw[Qc3 ‹_›]; done))),trivial⟩ rfl rfl
 have hb4':=a8 hb4
 iterate 3 refine w_ ?_
 refine lc (Qf 4 (e:= .int) QN QL Yu rfl rfl (ae.1 rfl) ⟨rfl,rfl⟩ (by decide) rfl rfl (Fresh.of rfl) (nlr rfl)) ?_
 iterate 6 refine w_ ?_
 refine AL.fact (Qo (x:= .tmp 18) (Qa rfl)) fun hl6=> ?_
 iterate 4 refine w_ ?_
 refine Qu (fun m_ s_=>∃(k:Nat),k≤s.2.2.1.length∧m_=s.2.2.1.length - k∧s_=⟨[(3,lP 1 0),(4,lf (.val (.slice none 0 0))),(5,lB false),(6,lR 5),(19,lI (s.2.2.1.length:Int)),(20,lI (k:Int))],[(1,some (.box 164 [.dat Zr r.1, .dat Xu r.2])),(5,some (.arr 3 .int (WE (byT r) k)))]⟩) ⟨0,aw _,rfl,rfl⟩ ?_ ?_
 exact wp [(1,1),(5,4)] ⟨rfl,(Qp (by first | rfl | simp)),trivial⟩
 rintro m_ s_ ⟨k,hk7,hm8,rfl⟩
 have hfl:=HG (byT r) k
 have hnl:s.2.2.1.length≤24:=by rw[‹StgOk s›.len]; exact ‹StgOk s›.net.2.1
 iterate 4 refine w_ ?_
 cases hb9:(decide ((k:Int) < (s.2.2.1.length:Int)))
 have hb9':=a7 hb9
 iterate 9 refine w_ ?_
 subst hO
 have e10:(true:Bool)=((dtV s r).2):=by
  (rw[Qdl ‹_› ‹_›]; done)
 exact QD _ _ [(0,5)] (QB rfl (Qd rfl) (Qd rfl)) (by rw[← e10] <;> rfl) ⟨(Qp (by (rw[Qdl ‹_› ‹_›,show k=s.2.2.1.length by omega]; done))),trivial⟩ rfl rfl
 have hb9':=a8 hb9
 iterate 6 refine w_ ?_
 refine lc (Qj 6 .int Yu rfl rfl (Fresh.of rfl) (nlr rfl))<|lc (Qc (Qa rfl) rfl (Qb rfl) rfl QL rfl) ?_
 iterate 4 refine w_ ?_
 refine lc (Xz ⟨_,_,rfl,(Qa rfl),rfl,rfl⟩ rfl)<|lc (QK 7 [(0,6)] (Kf r.2 (k:Int)) QeY ⟨_,_,rfl,(Qb rfl),⟨_,_,rfl,(Qb rfl),rfl⟩⟩ ⟨rfl,trivial⟩ rfl ⟨trivial,trivial⟩ (nlr rfl)) ?_
 iterate 2 refine w_ ?_
 cases hb11:(r.2.any (fun v:DMv=>decide (v.2.1=(k:Int))))
 iterate 4 refine w_ ?_
 refine lc (Qf 8 (e:= .int) QN QL Yu rfl ⟨_,_,rfl,(Qb rfl),rfl⟩ (ae.1 rfl) ⟨_,_,_,_,rfl,⟨rfl,rfl⟩,⟨rfl,rfl⟩,rfl⟩ (by decide) rfl rfl (Fresh.of rfl) (nlr rfl))<|lc (QH 9 (Qa rfl) rfl (Qa rfl) rfl rfl QN Wd (by first | omega | (simp only[aa,av,ab,ah,aj]; omega) | (simp only[aa,ay,ab,ah,aj]; omega)) rfl (Fresh.of rfl) (nlr rfl)) ?_
 refine w_ ?_
 refine Qm ?_
 iterate 4 refine w_ ?_
 refine Qm<|QV ⟨k+1,by omega,rfl,rfl⟩ (by omega) ?_
 exact wp [(1,1),(5,9)] ⟨rfl,(Qp (by first | exact XF (f:=byT r) ‹_› | exact Wx (f:=byT r) ‹_›)),trivial⟩
 iterate 6 refine w_ ?_
 refine Qm<|QV ⟨k+1,by omega,rfl,rfl⟩ (by omega) ?_
 exact wp [(1,1),(5,5)] ⟨rfl,(Qp (by first | exact XF (f:=byT r) ‹_› | exact Wx (f:=byT r) ‹_›)),trivial⟩
theorem Qbx (r:List ByteArray×(List (Int×Int×Int))):FC Tryz.prog 235 [(true,[.dat Zr r.1, .dat Xu r.2])] [] 0 (Is (PV.tup [(false,[.ref 0]),(false,[dB ((dlV r).2)])]) [(0,some (.arr 3 .int ((dlV r).1)))]):=by
 refine QO Tryz.func235 rfl rfl Tryz.ntmps235 fun O_ hO w0_ N0_ X_ h0_ f0_=> ?_
 refine w_ ?_
 refine lc (Qy 0 (Qb rfl) rfl rfl (Fresh.of rfl) (nlr rfl)) ?_
 iterate 6 refine w_ ?_
 refine lc (Ql (Jp r) QdZ ⟨_,_,rfl,(Qb rfl),rfl⟩ rfl rfl) ?_
 iterate 2 refine w_ ?_
 cases hb1:(decide (ZL r))
 have hb1':=a7 hb1
 iterate 5 refine w_ ?_
 refine AC.wk (Wk.nilS 1 2 3 .int rfl (Fresh.of rfl) (nlr rfl))<|Q4 ?_
 subst hO
 have e2:(false:Bool)=((dlV r).2):=by
  (rw[Qhx ‹_›]; done)
 exact QD _ _ [(0,1)] (QB rfl (Qd rfl) (Qd rfl)) (by rw[← e2] <;> rfl) ⟨(Qp (by (rw[Qhx ‹_›]; done))),trivial⟩ rfl rfl
 have hb1':=a8 hb1
 iterate 3 refine w_ ?_
 refine lc (Qf 2 (e:= .int) QN QL Yu rfl rfl (ae.1 rfl) ⟨rfl,rfl⟩ (by decide) rfl rfl (Fresh.of rfl) (nlr rfl)) ?_
 iterate 6 refine w_ ?_
 refine AL.fact (Qo (x:= .tmp 11) (Qa rfl)) fun hl3=> ?_
 iterate 4 refine w_ ?_
 refine Qu (fun m_ s_=>∃(k:Nat),k≤r.1.length∧m_=r.1.length - k∧s_=⟨[(1,lP 0 0),(2,lf (.val (.slice none 0 0))),(3,lB false),(4,lR 3),(12,lI (r.1.length:Int)),(13,lI (k:Int))],[(0,some (.box 164 [.dat Zr r.1, .dat Xu r.2])),(3,some (.arr 3 .int (WE (WX r) k)))]⟩) ⟨0,aw _,rfl,rfl⟩ ?_ ?_
 exact wp [(0,0),(3,2)] ⟨rfl,(Qp (by first | rfl | simp)),trivial⟩
 rintro m_ s_ ⟨k,hk4,hm5,rfl⟩
 have hfl:=HG (WX r) k
 have hgl:=‹ZL r›.1.2
 iterate 4 refine w_ ?_
 cases hb6:(decide ((k:Int) < (r.1.length:Int)))
 have hb6':=a7 hb6
 iterate 9 refine w_ ?_
 subst hO
 have e7:(true:Bool)=((dlV r).2):=by
  (rw[Qdf ‹_›]; done)
 exact QD _ _ [(0,3)] (QB rfl (Qd rfl) (Qd rfl)) (by rw[← e7] <;> rfl) ⟨(Qp (by (rw[Qdf ‹_›,show k=r.1.length by omega]; done))),trivial⟩ rfl rfl
 have hb6':=a8 hb6
 iterate 6 refine w_ ?_
 refine lc (Qj 4 .int Yu rfl rfl (Fresh.of rfl) (nlr rfl))<|lc (Qc (Qa rfl) rfl (Qb rfl) rfl QL rfl) ?_
 iterate 4 refine w_ ?_
 refine lc (Xz ⟨_,_,rfl,(Qa rfl),rfl,rfl⟩ rfl)<|lc (QK 5 [(0,4)] (UA r.2 (k:Int)) QeY ⟨_,_,rfl,(Qb rfl),⟨_,_,rfl,(Qb rfl),rfl⟩⟩ ⟨rfl,trivial⟩ rfl ⟨trivial,trivial⟩ (nlr rfl)) ?_
 iterate 2 refine w_ ?_
 cases hb8:(r.2.any (fun v:DMv=>decide (v.1=(k:Int))))
 iterate 4 refine w_ ?_
 refine lc (Qf 6 (e:= .int) QN QL Yu rfl ⟨_,_,rfl,(Qb rfl),rfl⟩ (ae.1 rfl) ⟨_,_,_,_,rfl,⟨rfl,rfl⟩,⟨rfl,rfl⟩,rfl⟩ (by decide) rfl rfl (Fresh.of rfl) (nlr rfl))<|lc (QH 7 (Qa rfl) rfl (Qa rfl) rfl rfl QN Wd (by first | omega | (simp only[aa,av,ab,ah,aj]; omega) | (simp only[aa,ay,ab,ah,aj]; omega)) rfl (Fresh.of rfl) (nlr rfl)) ?_
 refine w_ ?_
 refine Qm ?_
 iterate 4 refine w_ ?_
 refine Qm<|QV ⟨k+1,by omega,rfl,rfl⟩ (by omega) ?_
 exact wp [(0,0),(3,7)] ⟨rfl,(Qp (by first | exact XF (f:=WX r) ‹_› | exact Wx (f:=WX r) ‹_›)),trivial⟩
 iterate 6 refine w_ ?_
 refine Qm<|QV ⟨k+1,by omega,rfl,rfl⟩ (by omega) ?_
 exact wp [(0,0),(3,3)] ⟨rfl,(Qp (by first | exact XF (f:=WX r) ‹_› | exact Wx (f:=WX r) ‹_›)),trivial⟩
theorem Qbv (r:List ByteArray×(List (Int×Int×Int)))(k:Int):FC Tryz.prog 316 [(true,[.dat Zr r.1, .dat Xu r.2]),(false,[dI k])] [] 0 (Is (PV.tup [(false,[.ref 0]),(false,[dB ((mfV r k).2)])]) [(0,some (.arr 229 ZZ ((mfV r k).1)))]):=by
 refine QO Tryz.func316 rfl rfl Tryz.ntmps316 fun O_ hO w0_ N0_ X_ h0_ f0_=> ?_
 refine AC.fact (QC (x:= .tmp 1) (Qa rfl)) fun hi1=> ?_
 refine w_ ?_
 refine lc (Qy 0 (Qb rfl) rfl rfl (Fresh.of rfl) (nlr rfl)) ?_
 iterate 6 refine w_ ?_
 refine lc (Ql (Up r) QaJ ⟨_,_,rfl,(Qb rfl),rfl⟩ rfl rfl) ?_
 iterate 2 refine w_ ?_
 cases hb2:(decide (ZL r))
 have hb2':=a7 hb2
 iterate 14 refine w_ ?_
 refine AC.wk (Wk.nilS 1 4 229 ZZ rfl (Fresh.of rfl) (nlr rfl))<|Q4 ?_
 subst hO
 have e3:(false:Bool)=((mfV r k).2):=by
  (rw[Qla ‹_›]; done)
 exact QD _ _ [(0,1)] (QB rfl (Qd rfl) (Qd rfl)) (by rw[← e3] <;> rfl) ⟨(Qp (by (rw[Qla ‹_›]; done))),trivial⟩ rfl rfl
 have hb2':=a8 hb2
 iterate 3 refine w_ ?_
 refine AL.fact (Qo (x:= .tmp 15) (Qa rfl)) fun hl4=> ?_
 iterate 2 refine w_ ?_
 refine lgy rfl rfl (Ql (Xo k 0 ((r.1.length:Int) - 1)) Wi ⟨_,_,rfl,(Qb rfl),⟨_,_,rfl,(Evl.ev (Qv rfl)),⟨_,_,rfl,(Qb rfl),rfl⟩⟩⟩ rfl rfl) ?_
 iterate 3 refine w_ ?_
 cases hb5:(decide (0≤k∧k≤((r.1.length:Int) - 1)))
 have hb5':=a7 hb5
 iterate 5 refine w_ ?_
 refine AC.wk (Wk.nilS 2 4 229 ZZ rfl (Fresh.of rfl) (nlr rfl))<|Q4 ?_
 subst hO
 have e6:(false:Bool)=((mfV r k).2):=by
  (rw[Qln ‹_›]; done)
 exact QD _ _ [(0,2)] (QB rfl (Qd rfl) (Qd rfl)) (by rw[← e6] <;> rfl) ⟨(Qp (by (rw[Qln ‹_›]; done))),trivial⟩ rfl rfl
 have hb5':=a8 hb5
 iterate 9 refine w_ ?_
 refine AL.fact (Qo (x:= .tmp 22) (Qa rfl)) fun hl7=> ?_
 iterate 4 refine w_ ?_
 refine AC.wk (Wk.nilS 3 6 229 ZZ rfl (Fresh.of rfl) (nlr rfl)) ?_
 refine Qu (fun m_ s_=>∃(i:Nat),i≤r.2.length∧m_=r.2.length - i∧s_=⟨[(1,lI k),(4,lf (.val (.slice none 0 0))),(5,lB false),(6,lR 4),(22,lf (.dat Xu r.2)),(23,lI (r.2.length:Int)),(24,lI (i:Int))],[(4,some (.arr 229 ZZ (Qcs k (r.2.take i))))]⟩) ⟨0,aw _,rfl,rfl⟩ ?_ ?_
 exact wp [(4,3)] ⟨(Qp (by first | rfl | simp)),trivial⟩
 rintro m_ s_ ⟨i,hk8,hm9,rfl⟩
 have hfl:=Qmh (k:=k) i ‹ZL r›.2.1
 iterate 4 refine w_ ?_
 cases hb10:(decide ((i:Int) < (r.2.length:Int)))
 have hb10':=a7 hb10
 iterate 9 refine w_ ?_
 subst hO
 have e11:(true:Bool)=((mfV r k).2):=by
  (rw[QgS ‹_› ‹_›]; done)
 exact QD _ _ [(0,4)] (QB rfl (Qd rfl) (Qd rfl)) (by rw[← e11] <;> rfl) ⟨(Qp (by (rw[QgS ‹_› ‹_›,ZF (by omega)]; rfl))),trivial⟩ rfl rfl
 have hb10':=a8 hb10
 iterate 5 refine w_ ?_
 obtain ⟨x12,hx13⟩:=gx r.2 i
 refine lc (Qh (Qa rfl) (Qa rfl) Ys Yc rfl (by omega) hx13) ?_
 refine w_ ?_
 refine lc (Qj 5 ZZ Xm rfl rfl (Fresh.of rfl) (nlr rfl))<|lc (Qc (Qa rfl) rfl (Qb rfl) rfl Yc rfl) ?_
 iterate 4 refine w_ ?_
 refine AL.fact (QC (x:= .tmp 29) (Qa rfl)) fun hi14=> ?_
 iterate 3 refine w_ ?_
 cases hb15:(decide (x12.1=k))
 have hb15':=a7 hb15
 iterate 6 refine w_ ?_
 refine Qm<|QV ⟨i+1,by omega,rfl,rfl⟩ (by omega) ?_
 exact wp [(4,4)] ⟨(Qp (by first | exact QiX hx13 ‹_› | exact QkW hx13 ‹_›)),trivial⟩
 have hb15':=a8 hb15
 iterate 4 refine w_ ?_
 refine lc (Qf 6 (e:=ZZ) Ys Yc Xm rfl ⟨_,_,rfl,(Qb rfl),rfl⟩ (ae.1 rfl) ⟨_,_,_,_,rfl,⟨[dI x12.1],[dI x12.2.1,dI x12.2.2],_,_,_,_,rfl,rfl,⟨rfl,rfl⟩,⟨[dI x12.2.1],[dI x12.2.2],_,_,_,_,rfl,rfl,⟨rfl,rfl⟩,⟨rfl,rfl⟩,rfl⟩,rfl⟩,⟨rfl,rfl⟩,rfl⟩ (by decide) rfl rfl (Fresh.of rfl) (nlr rfl))<|lc (QH 7 (Qa rfl) rfl (Qa rfl) rfl rfl Ys Hm (by first | omega | (simp only[aa,av,ab,ah,aj]; omega) | (simp only[aa,ay,ab,ah,aj]; omega)) rfl (Fresh.of rfl) (nlr rfl)) ?_
 refine w_ ?_
 refine Qm ?_
 iterate 4 refine w_ ?_
 refine Qm<|QV ⟨i+1,by omega,rfl,rfl⟩ (by omega) ?_
 exact wp [(4,7)] ⟨(Qp (by first | exact QiX hx13 ‹_› | exact QkW hx13 ‹_›)),trivial⟩
theorem Qbt (r:List ByteArray×(List (Int×Int×Int))):FC Tryz.prog 237 [(true,[.dat Zr r.1, .dat Xu r.2])] [] 0 (Is (PV.tup [(false,[.ref 0]),(false,[dB ((dlV r).2)])]) [(0,some (.arr 3 .int ((dlV r).1)))]):=by
 refine QO Tryz.func237 rfl rfl Tryz.ntmps237 fun O_ hO w0_ N0_ X_ h0_ f0_=> ?_
 refine w_ ?_
 refine lc (Qy 0 (Qb rfl) rfl rfl (Fresh.of rfl) (nlr rfl)) ?_
 iterate 6 refine w_ ?_
 refine lc (Ql (Up r) QaJ ⟨_,_,rfl,(Qb rfl),rfl⟩ rfl rfl) ?_
 iterate 2 refine w_ ?_
 cases hb1:(decide (ZL r))
 have hb1':=a7 hb1
 iterate 5 refine w_ ?_
 refine AC.wk (Wk.nilS 1 2 3 .int rfl (Fresh.of rfl) (nlr rfl))<|Q4 ?_
 subst hO
 have e2:(false:Bool)=((dlV r).2):=by
  (rw[Qhx ‹_›]; done)
 exact QD _ _ [(0,1)] (QB rfl (Qd rfl) (Qd rfl)) (by rw[← e2] <;> rfl) ⟨(Qp (by (rw[Qhx ‹_›]; done))),trivial⟩ rfl rfl
 have hb1':=a8 hb1
 iterate 9 refine w_ ?_
 refine AL.fact (Qo (x:= .tmp 12) (Qa rfl)) fun hl3=> ?_
 iterate 4 refine w_ ?_
 refine AC.wk (Wk.nilS 2 4 3 .int rfl (Fresh.of rfl) (nlr rfl)) ?_
 refine Qu (fun m_ s_=>∃(k:Nat),k≤r.1.length∧m_=r.1.length - k∧s_=⟨[(1,lP 0 0),(2,lf (.val (.slice none 0 0))),(3,lB false),(4,lR 3),(13,lI (r.1.length:Int)),(14,lI (k:Int))],[(0,some (.box 164 [.dat Zr r.1, .dat Xu r.2])),(3,some (.arr 3 .int (WE (WX r) k)))]⟩) ⟨0,aw _,rfl,rfl⟩ ?_ ?_
 exact wp [(0,0),(3,2)] ⟨rfl,(Qp (by first | rfl | simp)),trivial⟩
 rintro m_ s_ ⟨k,hk4,hm5,rfl⟩
 have hfl:=HG (WX r) k
 have hgl:=‹ZL r›.1.2
 iterate 4 refine w_ ?_
 cases hb6:(decide ((k:Int) < (r.1.length:Int)))
 have hb6':=a7 hb6
 iterate 9 refine w_ ?_
 subst hO
 have e7:(true:Bool)=((dlV r).2):=by
  (rw[Qdf ‹_›]; done)
 exact QD _ _ [(0,3)] (QB rfl (Qd rfl) (Qd rfl)) (by rw[← e7] <;> rfl) ⟨(Qp (by (rw[Qdf ‹_›,show k=r.1.length by omega]; done))),trivial⟩ rfl rfl
 have hb6':=a8 hb6
 iterate 11 refine w_ ?_
 refine lc (Ql (Qbv r (k:Int)).frozenG Qks ⟨_,_,rfl,(Qb rfl),⟨_,_,rfl,(Qb rfl),rfl⟩⟩ rfl rfl) ?_
 iterate 8 refine w_ ?_
 refine AL.fact (Qo (x:= .tmp 23) (Qa rfl)) fun hl8=> ?_
 iterate 3 refine w_ ?_
 cases hb9:(decide ((((mfV r (k:Int)).1).length:Int)=0))
 have hb9':=a7 hb9
 iterate 6 refine w_ ?_
 refine Qm<|QV ⟨k+1,by omega,rfl,rfl⟩ (by omega) ?_
 exact wp [(0,0),(3,3)] ⟨rfl,(Qp (by first | exact XF (f:=WX r) (Qsm ‹ZL r› (by omega) ‹_›) | exact Wx (f:=WX r) (Qs2 ‹ZL r› (by omega) ‹_›))),trivial⟩
 have hb9':=a8 hb9
 iterate 4 refine w_ ?_
 refine lc (Qf 4 (e:= .int) QN QL Yu rfl ⟨_,_,rfl,(Qb rfl),rfl⟩ (ae.1 rfl) ⟨_,_,_,_,rfl,⟨rfl,rfl⟩,⟨rfl,rfl⟩,rfl⟩ (by decide) rfl rfl (Fresh.of rfl) (nlr rfl))<|lc (QH 5 (Qa rfl) rfl (Qa rfl) rfl rfl QN Wd (by first | omega | (simp only[aa,av,ab,ah,aj]; omega) | (simp only[aa,ay,ab,ah,aj]; omega)) rfl (Fresh.of rfl) (nlr rfl)) ?_
 refine w_ ?_
 refine Qm ?_
 iterate 4 refine w_ ?_
 refine Qm<|QV ⟨k+1,by omega,rfl,rfl⟩ (by omega) ?_
 exact wp [(0,0),(3,5)] ⟨rfl,(Qp (by first | exact XF (f:=WX r) (Qsm ‹ZL r› (by omega) ‹_›) | exact Wx (f:=WX r) (Qs2 ‹ZL r› (by omega) ‹_›))),trivial⟩
theorem Kx (s:(Int×(List (List Int×List Int)))×(List (ByteArray×Int))×(List (Int×Bool))×ByteArray)(r:List ByteArray×(List (Int×Int×Int)))[∀s,Decidable (StgOk s)]:FC Tryz.prog 236 [(true,[dI s.1.1, .dat QZ s.1.2, .dat QJ s.2.1, .dat QR s.2.2.1,dS s.2.2.2]),(true,[.dat Zr r.1, .dat Xu r.2])] [] 0 (Is (PV.tup [(false,[.ref 0]),(false,[dB ((dtV s r).2)])]) [(0,some (.arr 3 .int ((dtV s r).1)))]):=by
 refine QO Tryz.func236 rfl rfl Tryz.ntmps236 fun O_ hO w0_ N0_ X_ h0_ f0_=> ?_
 refine AC.fact (QI (x:= .tmp 0) (i:=0) (Qb rfl) rfl) fun hi1=> ?_
 refine w_ ?_
 refine lc (Qy 0 (Qb rfl) rfl rfl (Fresh.of rfl) (nlr rfl))<|lc (Qy 1 (Qb rfl) rfl rfl (Fresh.of rfl) (nlr rfl)) ?_
 iterate 6 refine w_ ?_
 refine lc (Ql (Yi s) X3 ⟨_,_,rfl,(Qb rfl),rfl⟩ rfl rfl) ?_
 iterate 2 refine w_ ?_
 cases hb2:(decide (StgOk s))
 have hb2':=a7 hb2
 iterate 10 refine w_ ?_
 refine AC.wk (Wk.nilS 2 4 3 .int rfl (Fresh.of rfl) (nlr rfl))<|Q4 ?_
 subst hO
 have e3:(false:Bool)=((dtV s r).2):=by
  (rw[Qdi ‹_›]; done)
 exact QD _ _ [(0,2)] (QB rfl (Qd rfl) (Qd rfl)) (by rw[← e3] <;> rfl) ⟨(Qp (by (rw[Qdi ‹_›]; done))),trivial⟩ rfl rfl
 have hb2':=a8 hb2
 refine w_ ?_
 refine lgy rfl rfl (Ql (Up r) QaJ ⟨_,_,rfl,(Qb rfl),rfl⟩ rfl rfl) ?_
 iterate 3 refine w_ ?_
 cases hb4:(decide (ZL r))
 have hb4':=a7 hb4
 iterate 5 refine w_ ?_
 refine AC.wk (Wk.nilS 3 4 3 .int rfl (Fresh.of rfl) (nlr rfl))<|Q4 ?_
 subst hO
 have e5:(false:Bool)=((dtV s r).2):=by
  (rw[Qc3 ‹_›]; done)
 exact QD _ _ [(0,3)] (QB rfl (Qd rfl) (Qd rfl)) (by rw[← e5] <;> rfl) ⟨(Qp (by (rw[Qc3 ‹_›]; done))),trivial⟩ rfl rfl
 have hb4':=a8 hb4
 iterate 10 refine w_ ?_
 refine AL.fact (Qo (x:= .tmp 21) (Qa rfl)) fun hl6=> ?_
 iterate 4 refine w_ ?_
 refine AC.wk (Wk.nilS 4 6 3 .int rfl (Fresh.of rfl) (nlr rfl)) ?_
 refine Qu (fun m_ s_=>∃(k:Nat),k≤s.1.2.length∧m_=s.1.2.length - k∧s_=⟨[(3,lP 1 0),(4,lf (.val (.slice none 0 0))),(5,lB false),(6,lR 5),(22,lI (s.1.2.length:Int)),(23,lI (k:Int))],[(1,some (.box 164 [.dat Zr r.1, .dat Xu r.2])),(5,some (.arr 3 .int (WE (byT r) k)))]⟩) ⟨0,aw _,rfl,rfl⟩ ?_ ?_
 exact wp [(1,1),(5,4)] ⟨rfl,(Qp (by first | rfl | simp)),trivial⟩
 rintro m_ s_ ⟨k,hk7,hm8,rfl⟩
 have hfl:=HG (byT r) k
 have hnl:=‹StgOk s›.net.2.1
 iterate 4 refine w_ ?_
 cases hb9:(decide ((k:Int) < (s.1.2.length:Int)))
 have hb9':=a7 hb9
 iterate 9 refine w_ ?_
 subst hO
 have e10:(true:Bool)=((dtV s r).2):=by
  (rw[Qdl ‹_› ‹_›]; done)
 exact QD _ _ [(0,5)] (QB rfl (Qd rfl) (Qd rfl)) (by rw[← e10] <;> rfl) ⟨(Qp (by (rw[Qdl ‹_› ‹_›,(‹StgOk s›).len,show k=s.1.2.length by omega]; done))),trivial⟩ rfl rfl
 have hb9':=a8 hb9
 iterate 15 refine w_ ?_
 refine AL.fact (Qo (x:= .tmp 27) (Qa rfl)) fun hl11=> ?_
 iterate 4 refine w_ ?_
 refine Qu (fun m_ s_=>∃(i:Nat) (met:Bool),i≤r.2.length∧m_=r.2.length - i∧(met=(r.2.take i).any (fun v:DMv=>decide (v.2.1=(k:Int))))∧s_=⟨[(3,lP 1 0),(4,lf (.val (.slice none 0 0))),(5,lB false),(6,lR 5),(7,lI (k:Int)),(8,lB met),(22,lI (s.1.2.length:Int)),(23,lI (k:Int)),(24,lB true),(25,lI (k:Int)),(26,lP 1 1),(27,lf (.dat Xu r.2)),(28,lI (r.2.length:Int)),(29,lI (i:Int))],[(1,some (.box 164 [.dat Zr r.1, .dat Xu r.2])),(5,some (.arr 3 .int (WE (byT r) k)))]⟩) ⟨0,false,aw _,rfl,rfl,rfl⟩ ?_ ?_
 exact wo [(1,1),(5,5)]
 rintro m_ s_ ⟨i,met,hk12,hm13,hF,rfl⟩
 iterate 4 refine w_ ?_
 cases hb14:(decide ((i:Int) < (r.2.length:Int)))
 have hb14':=a7 hb14
 iterate 7 refine w_ ?_
 cases hb15:(met)
 iterate 4 refine w_ ?_
 refine lc (Qf 6 (e:= .int) QN QL Yu rfl ⟨_,_,rfl,(Qb rfl),rfl⟩ (ae.1 rfl) ⟨_,_,_,_,rfl,⟨rfl,rfl⟩,⟨rfl,rfl⟩,rfl⟩ (by decide) rfl rfl (Fresh.of rfl) (nlr rfl))<|lc (QH 7 (Qa rfl) rfl (Qa rfl) rfl rfl QN Wd (by first | omega | (simp only[aa,av,ab,ah,aj]; omega) | (simp only[aa,ay,ab,ah,aj]; omega)) rfl (Fresh.of rfl) (nlr rfl)) ?_
 refine w_ ?_
 refine Qm ?_
 iterate 4 refine w_ ?_
 refine Qm<|QV ⟨k+1,by omega,rfl,rfl⟩ (by omega) ?_
 exact wp [(1,1),(5,7)] ⟨rfl,(Qp (by first | exact XF (f:=byT r) (by rw[ZF (by omega)] at hF; rw[byT,← hF]; assumption) | exact Wx (f:=byT r) (by rw[ZF (by omega)] at hF; rw[byT,← hF]; assumption))),trivial⟩
 iterate 6 refine w_ ?_
 refine Qm<|QV ⟨k+1,by omega,rfl,rfl⟩ (by omega) ?_
 exact wp [(1,1),(5,5)] ⟨rfl,(Qp (by first | exact XF (f:=byT r) (by rw[ZF (by omega)] at hF; rw[byT,← hF]; assumption) | exact Wx (f:=byT r) (by rw[ZF (by omega)] at hF; rw[byT,← hF]; assumption))),trivial⟩
 have hb14':=a8 hb14
 iterate 5 refine w_ ?_
 obtain ⟨x16,hx17⟩:=gx r.2 i
 refine lc (Qh (Qa rfl) (Qa rfl) Ys Yc rfl (by omega) hx17) ?_
 refine w_ ?_
 refine lc (Qj 8 ZZ Xm rfl rfl (Fresh.of rfl) (nlr rfl))<|lc (Qc (Qa rfl) rfl (Qb rfl) rfl Yc rfl) ?_
 iterate 4 refine w_ ?_
 cases hb18:(met)
 iterate 6 refine w_ ?_
 refine Qm ?_
 iterate 4 refine w_ ?_
 refine Qm<|QV ⟨i+1,(decide (x16.2.1=(k:Int))),by omega,rfl,(by rw[QiC hx17,← hF]; first | exact QcP ‹_› | exact QcM ‹_›),rfl⟩ (by omega) ?_
 exact wo [(1,1),(5,5)]
 iterate 6 refine w_ ?_
 refine Qm ?_
 iterate 4 refine w_ ?_
 refine Qm<|QV ⟨i+1,true,by omega,rfl,(by rw[QiC hx17,← hF]; first | exact QcP ‹_› | exact QcM ‹_›),rfl⟩ (by omega) ?_
 exact wo [(1,1),(5,5)]
end Go.Proofs.YtjaadeknhofhpaaGreat
