/- Walks over abstract states: valid reachability graphs, dead transitions, deadlocks. -/
import Derived.Test.YtnakmhfjafecpaaGreatWq
set_option linter.unusedSimpArgs false
set_option linter.unusedVariables false
set_option linter.unusedSectionVars false
namespace Go.Proofs.YtnakmhfjafecpaaGreat
open Go.RowKit
set_option maxRecDepth 100000
set_option maxHeartbeats 4000000
abbrev DRg:=List ByteArray×List DMv
instance (n m:Nat) (v:DMv):Decidable (MvOk n m v):=inferInstanceAs (Decidable (_∧_))
def Zd (r:DRg):Prop:=(1≤r.1.length∧r.1.length≤300)∧r.2.length≤4000∧r.1.Nodup∧∀v∈r.2,MvOk r.1.length 24 v
instance (r:DRg):Decidable (Zd r):=inferInstanceAs (Decidable (_∧_))
def Jo (l:List ByteArray):List (ByteArray×Bool):=l.foldl (fun m x=>Y6 .str m x true) []
section
variable {r:DRg}{k:Nat}{x y:ByteArray}{v:DMv}{l:List ByteArray}{m:List (ByteArray×Bool)}
theorem QlX:(∃p∈m,p.1=x)∧(Y6 .str m x true).length=m.length∧(∀z,(∃p∈Y6 .str m x true,p.1=z)↔∃p∈m,p.1=z)∨(¬∃p∈m,p.1=x)∧Y6 .str m x true=m++[(x,true)]:=by
  by_cases h:∃p∈m,p.1=x
  · refine .inl ⟨h, ?_⟩
    induction m with
    | nil=>obtain ⟨p,hp,_⟩:=h; cases hp
    | cons q m ih=>
      unfold Y6
      by_cases e:Ty.beq .str q.1 x=true
      · rw [if_pos e]
        have e2:q.1=x:=(Ty.beq_iff .str q.1 x).1 e
        refine ⟨by simp,fun z=> ?_⟩
        simp[e2]
      · rw [if_neg e]
        obtain ⟨p,hp,h2⟩:=h
        rcases List.mem_cons.1 hp with rfl | hp
        · exact absurd ((Ty.beq_iff .str p.1 x).2 h2) e
        · obtain ⟨h3, h4⟩ := ih ⟨p, hp, h2⟩
          refine ⟨by simp[h3],fun z=> ?_⟩
          constructor
          · rintro ⟨p, hp, e3⟩
            rcases List.mem_cons.1 hp with rfl | hp
            · exact ⟨p,List.mem_cons_self ..,e3⟩
            · obtain ⟨p2, hp2, e2⟩ := (h4 z).1 ⟨p, hp, e3⟩
              exact ⟨p2,List.mem_cons_of_mem _ hp2,e2⟩
          · rintro ⟨p, hp, e3⟩
            rcases List.mem_cons.1 hp with rfl | hp
            · exact ⟨p,List.mem_cons_self ..,e3⟩
            · obtain ⟨p2, hp2, e2⟩ := (h4 z).2 ⟨p, hp, e3⟩
              exact ⟨p2,List.mem_cons_of_mem _ hp2,e2⟩
  · exact .inr ⟨h,Qd2 fun p hp e=>h ⟨p,hp,e⟩⟩
theorem QgS (l:List ByteArray):∀m:List (ByteArray×Bool),(l.foldl (fun m x=>Y6 .str m x true) m).length≤m.length+l.length∧((l.foldl (fun m x=>Y6 .str m x true) m).length=m.length+l.length↔l.Nodup∧∀x∈l,¬∃p∈m,p.1=x):=by
  induction l with
  | nil=>intro m; simp
  | cons x l ih=>
    intro m
    obtain ⟨h1,h2⟩:=ih (Y6 .str m x true)
    simp only[List.foldl_cons,List.length_cons]
    rcases QlX (m:=m) (x:=x) with ⟨h3,h4,h5⟩ | ⟨h3,h4⟩
    · rw [h4] at h1
      refine ⟨by omega,⟨fun h=>by omega,fun h=>absurd h3 (h.2 x (List.mem_cons_self ..))⟩⟩
    · rw [h4, List.length_append] at h1 h2
      rw[h4]
      simp only[List.length_cons,List.length_nil] at h1 h2
      refine ⟨by omega,⟨fun h=> ?_,fun h=> ?_⟩⟩
      · obtain ⟨k1, k2⟩ := h2.1 (by omega)
        refine ⟨List.nodup_cons.2 ⟨fun hm=>k2 x hm ⟨(x,true),by simp,rfl⟩,k1⟩,fun y hy=> ?_⟩
        rcases List.mem_cons.1 hy with rfl | hy
        · exact h3
        · exact fun ⟨p,hp,e⟩=>k2 y hy ⟨p,List.mem_append_left _ hp,e⟩
      · obtain ⟨k1, k2⟩ := h
        have k3:=List.nodup_cons.1 k1
        have:=h2.2 ⟨k3.2,fun y hy ⟨p,hp,e⟩=>by
          rcases List.mem_append.1 hp with hp | hp
          · exact k2 y (List.mem_cons_of_mem _ hy) ⟨p,hp,e⟩
          · rw [List.mem_singleton.1 hp] at e
            exact k3.1 (by rw[show x=y from e]; exact hy)⟩
        omega
theorem Qkv (l:List ByteArray):(Jo l).length≤l.length:=by have:=(QgS l []).1; simpa [Jo] using this
theorem Qgv (l:List ByteArray):(Jo l).length=l.length↔l.Nodup:=by
  have:=(QgS l []).2
  simpa [Jo] using this
theorem QhC (hx:l[k]? =some x):Y6 .str (Jo (l.take k)) x true=Jo (l.take (k+1)):=by
  rw[QW hx]
  simp[Jo]
theorem Qg0 {n q:Nat}{ms:List DMv}(h:∀j,j < k→∀w,ms[j]? =some w→MvOk n q w)(hx:ms[k]? =some v)(hv:MvOk n q v):∀j,j < k+1→∀w,ms[j]? =some w→MvOk n q w:=fun j hj w hw=>by
  by_cases e:j=k
  · subst e; rw[hx] at hw; cases hw; exact hv
  · exact h j (by omega) w hw
theorem QjC {n q:Nat}{ms:List DMv}(h:∀j,j < k→∀w,ms[j]? =some w→MvOk n q w)(hk:ms.length≤k):∀w∈ms,MvOk n q w:=fun w hw=>by
  obtain ⟨j,hj⟩:=List.mem_iff_getElem?.1 hw
  have:=(List.getElem?_eq_some_iff.1 hj).1
  exact h j (by omega) w hj
theorem HG (h:¬Zd r):false=decide (Zd r):=(decide_eq_false h).symm
theorem XU (hx:r.2[k]? =some v)(h:¬MvOk r.1.length 24 v):false=decide (Zd r):=HG fun g=>h (g.2.2.2 v (List.mem_of_getElem? hx))
theorem QaN (h:¬((1:Int)≤(r.1.length:Int)∧(r.1.length:Int)≤300)):false=decide (Zd r):=HG fun g=>h (by have:=g.1; omega)
theorem QfJ (h:(4000:Int) < (r.2.length:Int)):false=decide (Zd r):=HG fun g=>by have:=g.2.1; omega
theorem Qhe (hm:m=Jo (r.1.take k))(hk:r.1.length≤k)(h:¬(m.length:Int)=(r.1.length:Int)):false=decide (Zd r):=HG fun g=>by
  rw[hm,List.take_of_length_le hk] at h
  exact h (by rw[(Qgv r.1).2 g.2.2.1])
theorem Qlg (h1:(1:Int)≤(r.1.length:Int)∧(r.1.length:Int)≤300)(hm:m=Jo (r.1.take k))(hk:r.1.length≤k)(h:(m.length:Int)=(r.1.length:Int))(h2:∀v∈r.2,MvOk r.1.length 24 v):decide ((r.2.length:Int)≤4000)=decide (Zd r):=by
  rw[hm,List.take_of_length_le hk] at h
  have h3:=(Qgv r.1).1 (by omega)
  refine decide_eq_decide.2 ⟨fun h4=>⟨by omega,by omega,h3,h2⟩,fun g=>by have:=g.2.1; omega⟩
theorem Qlc (h1:(1:Int)≤(r.1.length:Int)∧(r.1.length:Int)≤300)(h4:¬(4000:Int) < (r.2.length:Int))(h3:r.1.Nodup)(h2:∀v∈r.2,MvOk r.1.length 24 v):true=decide (Zd r):=(decide_eq_true ⟨by omega,by omega,h3,h2⟩).symm
theorem Qgj (hx:r.1[k]? =some x)(h:x∈r.1.take k):false=decide (Zd r):=HG fun g=>by
  have h1:=g.2.2.1
  rw[← List.take_append_drop k r.1,ZS hx] at h1
  exact (List.nodup_append.1 h1).2.2 x h x (List.mem_cons_self ..) rfl
theorem QnG (h:(l.take k).Nodup)(hx:l[k]? =some x)(hn:x∉l.take k):(l.take (k+1)).Nodup:=by
  rw[QW hx]
  exact List.nodup_append.2 ⟨h,by simp,fun a ha b hb e=>hn (by rw[← List.mem_singleton.1 hb,← e]; exact ha)⟩
theorem Qnz (h:0≤ZQ l x):x∈l:=by
  unfold ZQ ZH at h
  cases hf:l.findIdx? (fun y=>decide (y=x)) with
  | none=>rw[hf] at h; simp at h
  | some i=>
    obtain ⟨h1,h2,_⟩:=List.findIdx?_eq_some_iff_getElem.1 hf
    have:=of_decide_eq_true h2
    rw[← this]
    exact List.getElem_mem h1
end
def XF (f:Int→Bool):Nat→List Int
  | 0=>[]
  | k+1=>XF f k++(if f (k:Int)=true then [] else [(k:Int)])
section
variable {f:Int→Bool}{k n:Nat}{α:Type _}{l:List α}{p:α→Bool}{x:α}
theorem YO (h:f (k:Int)=true):XF f k=XF f (k+1):=by simp[XF,h]
theorem Xz (h:f (k:Int)=false):XF f k++[(k:Int)]=XF f (k+1):=by simp[XF,h]
theorem K2 (f:Int→Bool)(k:Nat):(XF f k).length≤k:=by
  induction k with
  | zero=>simp[XF]
  | succ k ih=>simp only[XF,List.length_append]; split <;> simp <;> omega
theorem Qgd (hx:l[k]? =some x):(l.take (k+1)).any p=((l.take k).any p||p x):=by rw[QW hx]; simp
end
def byT (r:DRg)(t:Int):Bool:=r.2.any fun v=>decide (v.2.1=t)
def XQ (r:DRg)(t:Int):Bool:=r.2.any fun v=>decide (v.1=t)
def mfV (r:DRg)(k:Int):List DMv×Bool:=if Zd r∧0≤k∧k < r.1.length then (r.2.filter fun v=>decide (v.1=k),true) else ([],false)
def dlV (r:DRg):List Int×Bool:=if Zd r then (XF (XQ r) r.1.length,true) else ([],false)
section
variable [∀s,Decidable (StgOk s)]
def dtV (s:Q5)(r:DRg):List Int×Bool:=if StgOk s∧Zd r then (XF (byT r) s.2.2.1.length,true) else ([],false)
theorem Qa7 {s:Q5}{r:DRg}(h:¬StgOk s):dtV s r=([],false):=if_neg fun g=>h g.1
theorem Qbd {s:Q5}{r:DRg}(h:¬Zd r):dtV s r=([],false):=if_neg fun g=>h g.2
theorem Qbh {s:Q5}{r:DRg}(h:StgOk s)(g:Zd r):dtV s r=(XF (byT r) s.2.2.1.length,true):=if_pos ⟨h,g⟩
end
theorem Qe4 {r:DRg}(h:¬Zd r):dlV r=([],false):=if_neg h
theorem Qbm {r:DRg}(g:Zd r):dlV r=(XF (XQ r) r.1.length,true):=if_pos g
theorem QjL {r:DRg}{k:Int}(h:¬Zd r):mfV r k=([],false):=if_neg fun g=>h g.1
theorem QjG {r:DRg}{k:Int}(h:¬(0≤k∧k≤(r.1.length:Int) - 1)):mfV r k=([],false):=if_neg fun g=>h (by have:=g.2; omega)
theorem QeW {r:DRg}{k:Int}(g:Zd r)(h:0≤k∧k≤(r.1.length:Int) - 1):mfV r k=(r.2.filter fun v=>decide (v.1=k),true):=if_pos ⟨g,by omega⟩
theorem Qgq {r:DRg}{k:Nat}(g:Zd r)(hk:k < r.1.length):XQ r (k:Int)= !decide (((mfV r (k:Int)).1.length:Int)=0):=by
  rw[QeW g (by omega)]
  unfold XQ
  rw[Bool.eq_iff_iff]
  simp[List.any_eq_true,List.length_eq_zero_iff]
theorem QoW {r:DRg}{k:Nat}(g:Zd r)(hk:k < r.1.length)(h:decide (((mfV r (k:Int)).1.length:Int)=0)=false):XQ r (k:Int)=true:=by rw[Qgq g hk,h]; rfl
theorem QpF {r:DRg}{k:Nat}(g:Zd r)(hk:k < r.1.length)(h:decide (((mfV r (k:Int)).1.length:Int)=0)=true):XQ r (k:Int)=false:=by rw[Qgq g hk,h]; rfl
def QaO (k:Int)(ms:List DMv):List DMv:=ms.filter fun v=>decide (v.1=k)
theorem Qj6 {k:Int}{ms:List DMv}{n:Nat}(i:Nat)(h:ms.length≤n):(QaO k (ms.take i)).length≤n:=Nat.le_trans (List.length_filter_le ..) (Nat.le_trans (by rw[List.length_take]; exact Nat.min_le_right _ _) h)
theorem Qgk {ms:List DMv}{i:Nat}{v:DMv}{k:Int}(hx:ms[i]? =some v)(h:decide (v.1=k)=true):QaO k (ms.take i)++[v]=QaO k (ms.take (i+1)):=by
  unfold QaO
  rw[QW hx,List.filter_append]; simp[h]
theorem Qji {ms:List DMv}{i:Nat}{v:DMv}{k:Int}(hx:ms[i]? =some v)(h:decide (v.1=k)=false):QaO k (ms.take i)=QaO k (ms.take (i+1)):=by
  unfold QaO
  rw[QW hx,List.filter_append]; simp[h]
theorem UU (r:List ByteArray×(List (Int×Int×Int))):FC Tryz.prog 301 [(true,[.dat (.sl 9 .str) r.1, .dat (.sl 226 (.pr .int (.pr .int .int))) r.2])] [] 0 (Zq (lB (decide (Zd r)))):=by
 refine QN Tryz.func301 rfl rfl Tryz.ntmps301 fun O_ hO w0_ N0_ X_ h0_ f0_=> ?_
 refine w_ ?_
 refine lc (Qw 0 (Qb rfl) rfl rfl (Fresh.of rfl) (nlr rfl)) ?_
 iterate 5 refine w_ ?_
 refine AL.fact (Qq (x:= .tmp 10) (Qa rfl)) fun hl1=> ?_
 iterate 8 refine w_ ?_
 refine AL.fact (Qq (x:= .tmp 14) (Qa rfl)) fun hl2=> ?_
 iterate 4 refine w_ ?_
 refine Qx (fun m_ s_=>∃(k:Nat),k≤r.2.length∧m_=r.2.length - k∧(∀j,j < k→∀w,r.2[j]? =some w→MvOk r.1.length 24 w)∧s_=⟨[(1,lP 0 0),(3,lI ((r.1.length:Int) - 1)),(14,lf (.dat (.sl 226 (.pr .int (.pr .int .int))) r.2)),(15,lI (r.2.length:Int)),(16,lI (k:Int))],[(0,some (.box 98 [.dat (.sl 9 .str) r.1, .dat (.sl 226 (.pr .int (.pr .int .int))) r.2]))]⟩) ⟨0,Nat.zero_le _,rfl,(fun j hj=>absurd hj (Nat.not_lt_zero j)),rfl⟩ ?_ ?_
 · exact Wk.of [(0,0)] rfl ⟨rfl,rfl,rfl,rfl,rfl,trivial⟩ ⟨rfl,trivial⟩ rfl rfl
 rintro m_ s_ ⟨k,hk3,hm4,hM,rfl⟩
 iterate 4 refine w_ ?_
 cases hb5:(decide ((k:Int) < (r.2.length:Int)))
 ·have hb5':=of_decide_eq_false hb5
  refine w_ ?_
  refine QB ?_
  refine (?_:AC _ _ _ _ _)
  refine w_ ?_
  refine lc (Hr (kt:=9) (et:=4) (kb:=false) (k:= .str) (vb:=false) (v:= .bool) 1 rfl (Fresh.of rfl) (nlr rfl)) ?_
  iterate 6 refine w_ ?_
  refine AL.fact (Qq (x:= .tmp 41) (Qa rfl)) fun hl6=> ?_
  iterate 4 refine w_ ?_
  refine Qx (fun m_ s_=>∃(i:Nat) (sm:List (ByteArray×Bool)),i≤r.1.length∧m_=r.1.length - i∧(sm=Jo (r.1.take i))∧s_=⟨[(1,lP 0 0),(6,lR 2),(41,lf (.dat (.sl 9 .str) r.1)),(42,lI (r.1.length:Int)),(43,lI (i:Int))],[(0,some (.box 98 [.dat (.sl 9 .str) r.1, .dat (.sl 226 (.pr .int (.pr .int .int))) r.2])),(2,some (.mp false .str false .bool sm))]⟩) ⟨0,[],Nat.zero_le _,rfl,rfl,rfl⟩ ?_ ?_
  · exact Wk.of [(0,0),(2,1)] rfl ⟨rfl,rfl,rfl,rfl,rfl,trivial⟩ ⟨rfl,(Qnd (by first | rfl | simp)),trivial⟩ rfl rfl
  rintro m_ s_ ⟨i,sm,hk7,hm8,hS,rfl⟩
  iterate 4 refine w_ ?_
  cases hb9:(decide ((i:Int) < (r.1.length:Int)))
  ·have hb9':=of_decide_eq_false hb9
   refine w_ ?_
   refine QB ?_
   refine (?_:AC _ _ _ _ _)
   refine Wp ?_
   have hsl:sm.length≤r.1.length:=by rw[hS]; exact Nat.le_trans (Qkv _) (by rw[List.length_take]; exact Nat.min_le_right _ _)
   iterate 3 refine w_ ?_
   refine AL.fact (Qq (x:= .tmp 51) (Qa rfl)) fun hl10=> ?_
   refine w_ ?_
   refine lc (Qn (Z3 (r.1.length:Int) 1 300) Xf ⟨_,_,rfl,(Qb rfl),⟨_,_,rfl,(Evl.ev (QM rfl)),⟨_,_,rfl,(Evl.ev (QM rfl)),rfl⟩⟩⟩ rfl rfl) ?_
   refine w_ ?_
   cases hb11:(decide (1≤(r.1.length:Int)∧(r.1.length:Int)≤300))
   ·have hb11':=of_decide_eq_false hb11
    iterate 15 refine w_ ?_
    refine Qf ?_
    subst hO
    have e12:(false:Bool)=(decide (Zd r)):=by
     exact QaN (by assumption)
    exact Ql (Qm rfl (Qd rfl)) ((congrArg (fun z_=>lB z_) e12)) rfl
   ·have hb11':=of_decide_eq_true hb11
    refine w_ ?_
    refine lgy rfl rfl (QkP (Qa rfl) rfl Qi5 (by omega) rfl) ?_
    iterate 2 refine w_ ?_
    refine AL.fact (Qq (x:= .tmp 58) (Qa rfl)) fun hl13=> ?_
    iterate 4 refine w_ ?_
    cases hb14:(decide ((sm.length:Int)=(r.1.length:Int)))
    ·have hb14':=of_decide_eq_false hb14
     iterate 7 refine w_ ?_
     refine Qf ?_
     subst hO
     have e15:(false:Bool)=(decide (Zd r)):=by
      exact Qhe hS (by omega) (by assumption)
     exact Ql (Qm rfl (Qd rfl)) ((congrArg (fun z_=>lB z_) e15)) rfl
    ·have hb14':=of_decide_eq_true hb14
     iterate 2 refine w_ ?_
     refine AL.fact (Qq (x:= .tmp 64) (Qa rfl)) fun hl16=> ?_
     iterate 5 refine w_ ?_
     refine Qf ?_
     subst hO
     have e17:(decide ((r.2.length:Int)≤4000):Bool)=(decide (Zd r)):=by
      exact Qlg (by assumption) hS (by omega) (by assumption) (QjC hM (by omega))
     exact Ql (Qm rfl (Qd rfl)) ((congrArg (fun z_=>lB z_) e17)) rfl
  ·have hb9':=of_decide_eq_true hb9
   iterate 5 refine w_ ?_
   obtain ⟨x18,hx19⟩:∃z,r.1[i]? =some z:=⟨_,List.getElem?_eq_getElem (by omega)⟩
   refine lc (Qh (Qa rfl) (Qa rfl) Zi Ze rfl (by omega) hx19) ?_
   iterate 6 refine w_ ?_
   refine lc (Ko Qjn Qi5 (Qa rfl) rfl (Qb rfl) (p:=x18) rfl (Evl.ev Yy) (u:=true) rfl)<|Qk ?_
   refine (?_:AC _ _ _ _ _)
   iterate 3 refine w_ ?_
   refine Qk<|QU ⟨i+1,(Y6 .str sm x18 true),by omega,rfl,(by rw[hS]; exact QhC hx19),rfl⟩ (by omega) ?_
   exact Wk.of [(0,0),(2,2)] rfl ⟨rfl,rfl,rfl,rfl,rfl,trivial⟩ ⟨rfl,(Qnd (by first | rfl | simp)),trivial⟩ rfl rfl
 ·have hb5':=of_decide_eq_true hb5
  iterate 5 refine w_ ?_
  obtain ⟨x20,hx21⟩:∃z,r.2[k]? =some z:=⟨_,List.getElem?_eq_getElem (by omega)⟩
  refine lc (Qh (Qa rfl) (Qa rfl) Z6 Zr rfl (by omega) hx21) ?_
  refine w_ ?_
  refine lc (Qp 3 (.pr .int (.pr .int .int)) Yu rfl rfl (Fresh.of rfl) (nlr rfl))<|lc (Qe (Qa rfl) rfl (Qb rfl) rfl Zr rfl) ?_
  iterate 4 refine w_ ?_
  refine AL.fact (QA (x:= .tmp 21) (Qa rfl)) fun hi22=> ?_
  refine w_ ?_
  refine lc (Qn (Z3 x20.1 0 ((r.1.length:Int) - 1)) Xf ⟨_,_,rfl,(Qb rfl),⟨_,_,rfl,(Evl.ev (QM rfl)),⟨_,_,rfl,(Qb rfl),rfl⟩⟩⟩ rfl rfl) ?_
  iterate 2 refine w_ ?_
  cases hb23:(decide (0≤x20.1∧x20.1≤((r.1.length:Int) - 1)))
  ·have hb23':=of_decide_eq_false hb23
   iterate 17 refine w_ ?_
   refine Qf ?_
   subst hO
   have e24:(false:Bool)=(decide (Zd r)):=by
    exact XU hx21 (by unfold MvOk; omega)
   exact Ql (Qm rfl (Qd rfl)) ((congrArg (fun z_=>lB z_) e24)) rfl
  ·have hb23':=of_decide_eq_true hb23
   iterate 3 refine w_ ?_
   refine lgy rfl rfl (Qn (Z3 x20.2.2 0 ((r.1.length:Int) - 1)) Xf ⟨_,_,rfl,(Qb rfl),⟨_,_,rfl,(Evl.ev (QM rfl)),⟨_,_,rfl,(Qb rfl),rfl⟩⟩⟩ rfl rfl) ?_
   iterate 3 refine w_ ?_
   cases hb25:(decide (0≤x20.2.2∧x20.2.2≤((r.1.length:Int) - 1)))
   ·have hb25':=of_decide_eq_false hb25
    iterate 10 refine w_ ?_
    refine Qf ?_
    subst hO
    have e26:(false:Bool)=(decide (Zd r)):=by
     exact XU hx21 (by unfold MvOk; omega)
    exact Ql (Qm rfl (Qd rfl)) ((congrArg (fun z_=>lB z_) e26)) rfl
   ·have hb25':=of_decide_eq_true hb25
    iterate 2 refine w_ ?_
    refine lgy rfl rfl (Qn (Z3 x20.2.1 0 23) Xf ⟨_,_,rfl,(Qb rfl),⟨_,_,rfl,(Evl.ev (QM rfl)),⟨_,_,rfl,(Evl.ev (QM rfl)),rfl⟩⟩⟩ rfl rfl) ?_
    iterate 3 refine w_ ?_
    cases hb27:(decide (0≤x20.2.1∧x20.2.1≤23))
    ·have hb27':=of_decide_eq_false hb27
     iterate 4 refine w_ ?_
     refine Qf ?_
     subst hO
     have e28:(false:Bool)=(decide (Zd r)):=by
      exact XU hx21 (by unfold MvOk; omega)
     exact Ql (Qm rfl (Qd rfl)) ((congrArg (fun z_=>lB z_) e28)) rfl
    ·have hb27':=of_decide_eq_true hb27
     refine w_ ?_
     refine AC.skip ?_
     refine (?_:AC _ _ _ _ _)
     iterate 3 refine w_ ?_
     refine Qk<|QU ⟨k+1,by omega,rfl,(Qg0 hM hx21 (by unfold MvOk; omega)),rfl⟩ (by omega) ?_
     exact Wk.of [(0,0)] rfl ⟨rfl,rfl,rfl,rfl,rfl,trivial⟩ ⟨rfl,trivial⟩ rfl rfl
theorem Vc (r:List ByteArray×(List (Int×Int×Int))):FC Tryz.prog 322 [(true,[.dat (.sl 9 .str) r.1, .dat (.sl 226 (.pr .int (.pr .int .int))) r.2])] [] 0 (Zq (lB (decide (Zd r)))):=by
 refine QN Tryz.func322 rfl rfl Tryz.ntmps322 fun O_ hO w0_ N0_ X_ h0_ f0_=> ?_
 refine w_ ?_
 refine lc (Qw 0 (Qb rfl) rfl rfl (Fresh.of rfl) (nlr rfl)) ?_
 iterate 6 refine w_ ?_
 refine AL.fact (Qq (x:= .tmp 8) (Qa rfl)) fun hl1=> ?_
 refine w_ ?_
 refine lc (Qn (Ys (r.1.length:Int) 1 300) Xl ⟨_,_,rfl,(Qb rfl),⟨_,_,rfl,(Evl.ev (QM rfl)),⟨_,_,rfl,(Evl.ev (QM rfl)),rfl⟩⟩⟩ rfl rfl) ?_
 iterate 2 refine w_ ?_
 cases hb2:(decide (1≤(r.1.length:Int)∧(r.1.length:Int)≤300))
 ·have hb2':=of_decide_eq_false hb2
  iterate 10 refine w_ ?_
  refine Qf ?_
  subst hO
  have e3:(false:Bool)=(decide (Zd r)):=by
   exact QaN (by assumption)
  exact Ql (Qm rfl (Qd rfl)) ((congrArg (fun z_=>lB z_) e3)) rfl
 ·have hb2':=of_decide_eq_true hb2
  iterate 2 refine w_ ?_
  refine AL.fact (Qq (x:= .tmp 14) (Qa rfl)) fun hl4=> ?_
  iterate 4 refine w_ ?_
  cases hb5:(decide (4000 < (r.2.length:Int)))
  ·have hb5':=of_decide_eq_false hb5
   iterate 6 refine w_ ?_
   refine AL.fact (Qq (x:= .tmp 19) (Qa rfl)) fun hl6=> ?_
   iterate 4 refine w_ ?_
   refine Qx (fun m_ s_=>∃(i:Nat),i≤r.1.length∧m_=r.1.length - i∧((r.1.take i).Nodup)∧s_=⟨[(1,lP 0 0),(19,lf (.dat (.sl 9 .str) r.1)),(20,lI (r.1.length:Int)),(21,lI (i:Int))],[(0,some (.box 98 [.dat (.sl 9 .str) r.1, .dat (.sl 226 (.pr .int (.pr .int .int))) r.2]))]⟩) ⟨0,Nat.zero_le _,rfl,List.nodup_nil,rfl⟩ ?_ ?_
   · exact Wk.of [(0,0)] rfl ⟨rfl,rfl,rfl,rfl,trivial⟩ ⟨rfl,trivial⟩ rfl rfl
   rintro m_ s_ ⟨i,hk7,hm8,hD,rfl⟩
   iterate 4 refine w_ ?_
   cases hb9:(decide ((i:Int) < (r.1.length:Int)))
   ·have hb9':=of_decide_eq_false hb9
    refine w_ ?_
    refine QB ?_
    refine (?_:AC _ _ _ _ _)
    iterate 4 refine w_ ?_
    refine AL.fact (Qq (x:= .tmp 35) (Qa rfl)) fun hl10=> ?_
    iterate 4 refine w_ ?_
    refine Qx (fun m_ s_=>∃(k:Nat),k≤r.2.length∧m_=r.2.length - k∧(∀j,j < k→∀w,r.2[j]? =some w→MvOk r.1.length 24 w)∧s_=⟨[(1,lP 0 0),(35,lf (.dat (.sl 226 (.pr .int (.pr .int .int))) r.2)),(36,lI (r.2.length:Int)),(37,lI (k:Int))],[(0,some (.box 98 [.dat (.sl 9 .str) r.1, .dat (.sl 226 (.pr .int (.pr .int .int))) r.2]))]⟩) ⟨0,Nat.zero_le _,rfl,(fun j hj=>absurd hj (Nat.not_lt_zero j)),rfl⟩ ?_ ?_
    · exact Wk.of [(0,0)] rfl ⟨rfl,rfl,rfl,rfl,trivial⟩ ⟨rfl,trivial⟩ rfl rfl
    rintro m_ s_ ⟨k,hk11,hm12,hM,rfl⟩
    iterate 4 refine w_ ?_
    cases hb13:(decide ((k:Int) < (r.2.length:Int)))
    ·have hb13':=of_decide_eq_false hb13
     refine w_ ?_
     refine QB ?_
     refine (?_:AC _ _ _ _ _)
     iterate 3 refine w_ ?_
     refine Qf ?_
     subst hO
     have e14:(true:Bool)=(decide (Zd r)):=by
      exact Qlc (by assumption) (by assumption) (by rw[Yi (by omega)] at hD; exact hD) (QjC hM (by omega))
     exact Ql (Qm rfl (Qd rfl)) ((congrArg (fun z_=>lB z_) e14)) rfl
    ·have hb13':=of_decide_eq_true hb13
     iterate 5 refine w_ ?_
     obtain ⟨x15,hx16⟩:∃z,r.2[k]? =some z:=⟨_,List.getElem?_eq_getElem (by omega)⟩
     refine lc (Qh (Qa rfl) (Qa rfl) Z6 Zr rfl (by omega) hx16) ?_
     refine w_ ?_
     refine lc (Qp 1 (.pr .int (.pr .int .int)) Yu rfl rfl (Fresh.of rfl) (nlr rfl))<|lc (Qe (Qa rfl) rfl (Qb rfl) rfl Zr rfl) ?_
     iterate 4 refine w_ ?_
     refine AL.fact (QA (x:= .tmp 42) (Qa rfl)) fun hi17=> ?_
     iterate 2 refine w_ ?_
     refine AL.fact (Qq (x:= .tmp 44) (Qa rfl)) fun hl18=> ?_
     iterate 2 refine w_ ?_
     refine lc (Qn (Ys x15.1 0 ((r.1.length:Int) - 1)) Xl ⟨_,_,rfl,(Qb rfl),⟨_,_,rfl,(Evl.ev (QM rfl)),⟨_,_,rfl,(Qb rfl),rfl⟩⟩⟩ rfl rfl) ?_
     iterate 2 refine w_ ?_
     cases hb19:(decide (0≤x15.1∧x15.1≤((r.1.length:Int) - 1)))
     ·have hb19':=of_decide_eq_false hb19
      iterate 20 refine w_ ?_
      refine Qf ?_
      subst hO
      have e20:(false:Bool)=(decide (Zd r)):=by
       exact XU hx16 (by unfold MvOk; omega)
      exact Ql (Qm rfl (Qd rfl)) ((congrArg (fun z_=>lB z_) e20)) rfl
     ·have hb19':=of_decide_eq_true hb19
      iterate 4 refine w_ ?_
      refine AL.fact (Qq (x:= .tmp 53) (Qa rfl)) fun hl21=> ?_
      iterate 2 refine w_ ?_
      refine lgy rfl rfl (Qn (Ys x15.2.2 0 ((r.1.length:Int) - 1)) Xl ⟨_,_,rfl,(Qb rfl),⟨_,_,rfl,(Evl.ev (QM rfl)),⟨_,_,rfl,(Qb rfl),rfl⟩⟩⟩ rfl rfl) ?_
      iterate 3 refine w_ ?_
      cases hb22:(decide (0≤x15.2.2∧x15.2.2≤((r.1.length:Int) - 1)))
      ·have hb22':=of_decide_eq_false hb22
       iterate 10 refine w_ ?_
       refine Qf ?_
       subst hO
       have e23:(false:Bool)=(decide (Zd r)):=by
        exact XU hx16 (by unfold MvOk; omega)
       exact Ql (Qm rfl (Qd rfl)) ((congrArg (fun z_=>lB z_) e23)) rfl
      ·have hb22':=of_decide_eq_true hb22
       iterate 2 refine w_ ?_
       refine lgy rfl rfl (Qn (Ys x15.2.1 0 23) Xl ⟨_,_,rfl,(Qb rfl),⟨_,_,rfl,(Evl.ev (QM rfl)),⟨_,_,rfl,(Evl.ev (QM rfl)),rfl⟩⟩⟩ rfl rfl) ?_
       iterate 3 refine w_ ?_
       cases hb24:(decide (0≤x15.2.1∧x15.2.1≤23))
       ·have hb24':=of_decide_eq_false hb24
        iterate 4 refine w_ ?_
        refine Qf ?_
        subst hO
        have e25:(false:Bool)=(decide (Zd r)):=by
         exact XU hx16 (by unfold MvOk; omega)
        exact Ql (Qm rfl (Qd rfl)) ((congrArg (fun z_=>lB z_) e25)) rfl
       ·have hb24':=of_decide_eq_true hb24
        refine w_ ?_
        refine AC.skip ?_
        refine (?_:AC _ _ _ _ _)
        iterate 3 refine w_ ?_
        refine Qk<|QU ⟨k+1,by omega,rfl,(Qg0 hM hx16 (by unfold MvOk; omega)),rfl⟩ (by omega) ?_
        exact Wk.of [(0,0)] rfl ⟨rfl,rfl,rfl,rfl,trivial⟩ ⟨rfl,trivial⟩ rfl rfl
   ·have hb9':=of_decide_eq_true hb9
    iterate 6 refine w_ ?_
    obtain ⟨x26,hx27⟩:∃z,r.1[i]? =some z:=⟨_,List.getElem?_eq_getElem (by omega)⟩
    refine lc (Qh (Qa rfl) (Qa rfl) Zi Ze rfl (by omega) hx27) ?_
    iterate 8 refine w_ ?_
    refine lc (QaJ (l:=none) (h:=(some (i:Int))) (Qa rfl) (by exact trivial) (by exact (Qa rfl)) Zi Ze rfl (by simp only[Option.getD_none,Option.getD_some]; omega) (by simp only[Option.getD_none,Option.getD_some]; omega) (by simp only[Option.getD_none,Option.getD_some]; omega)) ?_
    refine w_ ?_
    refine lc (Qn (Kd ((r.1.take ((i:Int)).toNat).drop 0) x26) Qct ⟨_,_,rfl,(Qb rfl),⟨_,_,rfl,(Qb rfl),rfl⟩⟩ rfl rfl) ?_
    iterate 2 refine w_ ?_
    cases hb28:(decide (0≤(ZQ ((r.1.take ((i:Int)).toNat).drop 0) x26)))
    ·have hb28':=of_decide_eq_false hb28
     refine w_ ?_
     refine AC.skip ?_
     refine (?_:AC _ _ _ _ _)
     iterate 3 refine w_ ?_
     refine Qk<|QU ⟨i+1,by omega,rfl,(QnG hD hx27 (fun hm=>by have:=Qec (l:=r.1.take i) (by assumption); exact this hm)),rfl⟩ (by omega) ?_
     exact Wk.of [(0,0)] rfl ⟨rfl,rfl,rfl,rfl,trivial⟩ ⟨rfl,trivial⟩ rfl rfl
    ·have hb28':=of_decide_eq_true hb28
     iterate 4 refine w_ ?_
     refine Qf ?_
     subst hO
     have e29:(false:Bool)=(decide (Zd r)):=by
      exact Qgj hx27 (Qnz (l:=r.1.take i) (by assumption))
     exact Ql (Qm rfl (Qd rfl)) ((congrArg (fun z_=>lB z_) e29)) rfl
  ·have hb5':=of_decide_eq_true hb5
   iterate 4 refine w_ ?_
   refine Qf ?_
   subst hO
   have e30:(false:Bool)=(decide (Zd r)):=by
    exact QfJ (by assumption)
   exact Ql (Qm rfl (Qd rfl)) ((congrArg (fun z_=>lB z_) e30)) rfl
theorem Vn (m:Int×Int×Int)(t:Int):FC Tryz.prog 303 [(true,[dI m.1,dI m.2.1,dI m.2.2]),(false,[.ptr 0 0])] [(0,some (.box 3 [dI t]))] 1 (Is (lB (decide (m.2.1=t))) [(0,some (.box 3 [dI t]))]):=by
 refine QN Tryz.func303 rfl rfl Tryz.ntmps303 fun O_ hO w0_ N0_ X_ h0_ f0_=> ?_
 refine AC.fact (QG (x:= .tmp 0) (i:=0) (Qb rfl) rfl) fun hi1=>AC.fact (QG (x:= .tmp 0) (i:=1) (Qb rfl) rfl) fun hi2=>AC.fact (QG (x:= .tmp 0) (i:=2) (Qb rfl) rfl) fun hi3=> ?_
 refine w_ ?_
 refine lc (Qw 1 (Qb rfl) rfl rfl (Fresh.of rfl) (nlr rfl)) ?_
 iterate 6 refine w_ ?_
 refine AL.fact (QA (x:= .tmp 6) (Qa rfl)) fun hi4=> ?_
 iterate 3 refine w_ ?_
 refine Qf ?_
 subst hO
 exact QF _ _ [(0,0)] (Qm rfl (Qd rfl)) (rfl) ⟨rfl,trivial⟩ rfl rfl
theorem Kf (s:List (Int×Int×Int))(t:Int):FC Tryz.prog 324 [(false,[.dat (.sl 226 (.pr .int (.pr .int .int))) s]),(false,[.clo 303 [0]])] [(0,some (.box 3 [dI t]))] 1 (Is (lI (ZH (fun v:DMv=>decide (v.2.1=t)) s)) [(0,some (.box 3 [dI t]))]):=by
 refine QN Tryz.func324 rfl rfl Tryz.ntmps324 fun O_ hO w0_ N0_ X_ h0_ f0_=> ?_
 iterate 6 refine w_ ?_
 refine AL.fact (Qq (x:= .tmp 6) (Qa rfl)) fun hl1=> ?_
 iterate 4 refine w_ ?_
 refine Qx (fun m_ s_=>∃(k:Nat),k≤s.length∧m_=s.length - k∧(NoneTo (fun v:DMv=>decide (v.2.1=t)) s k)∧s_=⟨[(0,lf (.dat (.sl 226 (.pr .int (.pr .int .int))) s)),(1,lf (.clo 303 [0])),(7,lI (s.length:Int)),(8,lI (k:Int))],[(0,some (.box 3 [dI t]))]⟩) ⟨0,Nat.zero_le _,rfl,NoneTo.zero,rfl⟩ ?_ ?_
 · exact Wk.of [(0,0)] rfl ⟨rfl,rfl,rfl,rfl,trivial⟩ ⟨rfl,trivial⟩ rfl rfl
 rintro m_ s_ ⟨k,hk2,hm3,hno,rfl⟩
 iterate 4 refine w_ ?_
 cases hb4:(decide ((k:Int) < (s.length:Int)))
 ·have hb4':=of_decide_eq_false hb4
  refine w_ ?_
  refine QB ?_
  refine (?_:AC _ _ _ _ _)
  iterate 3 refine w_ ?_
  refine Qf ?_
  subst hO
  have e5:((-1):Int)=(ZH (fun v:DMv=>decide (v.2.1=t)) s):=by
   first | exact (hno.no (by omega)).symm
  exact QF _ _ [(0,0)] (Qm rfl (Qd rfl)) ((congrArg (fun z_=>lI z_) e5)) ⟨rfl,trivial⟩ rfl rfl
 ·have hb4':=of_decide_eq_true hb4
  iterate 12 refine w_ ?_
  obtain ⟨x6,hx7⟩:∃z,s[k]? =some z:=⟨_,List.getElem?_eq_getElem (by omega)⟩
  refine lc (Qh (Qa rfl) (Qa rfl) Z6 Zr rfl (by omega) hx7) ?_
  refine w_ ?_
  refine lc (Xi (args0:=[(true,[dI x6.1,dI x6.2.1,dI x6.2.2])]) (caps:=[0]) 1 [(0,0)] (Vn x6 t) Qhc rfl (Qa rfl) rfl rfl ⟨_,_,rfl,(Qb rfl),rfl⟩ ⟨rfl,trivial⟩ rfl ⟨trivial,trivial⟩ (nlr rfl)) ?_
  refine w_ ?_
  cases hb8:(decide (x6.2.1=t))
  ·have hb8':=of_decide_eq_false hb8
   refine w_ ?_
   refine AC.skip ?_
   refine (?_:AC _ _ _ _ _)
   iterate 3 refine w_ ?_
   refine Qk<|QU ⟨k+1,by omega,rfl,hno.step hx7 (by assumption),rfl⟩ (by omega) ?_
   exact Wk.of [(0,0)] rfl ⟨rfl,rfl,rfl,rfl,trivial⟩ ⟨rfl,trivial⟩ rfl rfl
  ·have hb8':=of_decide_eq_true hb8
   iterate 5 refine w_ ?_
   refine Qf ?_
   subst hO
   have e9:((k:Int):Int)=(ZH (fun v:DMv=>decide (v.2.1=t)) s):=by
    exact (hno.at hx7 (by assumption)).symm
   exact QF _ _ [(0,0)] (Qm rfl (Qd rfl)) ((congrArg (fun z_=>lI z_) e9)) ⟨rfl,trivial⟩ rfl rfl
theorem Ua (s:List (Int×Int×Int))(t:Int):FC Tryz.prog 302 [(false,[.dat (.sl 226 (.pr .int (.pr .int .int))) s]),(false,[.clo 303 [0]])] [(0,some (.box 3 [dI t]))] 1 (Is (lB (s.any (fun v:DMv=>decide (v.2.1=t)))) [(0,some (.box 3 [dI t]))]):=by
 refine QN Tryz.func302 rfl rfl Tryz.ntmps302 fun O_ hO w0_ N0_ X_ h0_ f0_=> ?_
 iterate 6 refine w_ ?_
 refine lc (Za 1 [(0,0)] (Kf s t) Qda ⟨_,_,rfl,(Qb rfl),⟨_,_,rfl,(Qb rfl),rfl⟩⟩ ⟨rfl,trivial⟩ rfl ⟨trivial,trivial⟩ (nlr rfl)) ?_
 iterate 3 refine w_ ?_
 refine Qf ?_
 subst hO
 have e1:(decide (0≤(ZH (fun v:DMv=>decide (v.2.1=t)) s)):Bool)=(s.any (fun v:DMv=>decide (v.2.1=t))):=by
  exact W6 _ _
 exact QF _ _ [(0,0)] (Qm rfl (Qd rfl)) ((congrArg (fun z_=>lB z_) e1)) ⟨rfl,trivial⟩ rfl rfl
theorem Jb (m:Int×Int×Int)(q:Int):FC Tryz.prog 304 [(true,[dI m.1,dI m.2.1,dI m.2.2]),(false,[.ptr 0 0])] [(0,some (.box 3 [dI q]))] 1 (Is (lB (decide (m.1=q))) [(0,some (.box 3 [dI q]))]):=by
 refine QN Tryz.func304 rfl rfl Tryz.ntmps304 fun O_ hO w0_ N0_ X_ h0_ f0_=> ?_
 refine AC.fact (QG (x:= .tmp 0) (i:=0) (Qb rfl) rfl) fun hi1=>AC.fact (QG (x:= .tmp 0) (i:=1) (Qb rfl) rfl) fun hi2=>AC.fact (QG (x:= .tmp 0) (i:=2) (Qb rfl) rfl) fun hi3=> ?_
 refine w_ ?_
 refine lc (Qw 1 (Qb rfl) rfl rfl (Fresh.of rfl) (nlr rfl)) ?_
 iterate 6 refine w_ ?_
 refine AL.fact (QA (x:= .tmp 6) (Qa rfl)) fun hi4=> ?_
 iterate 3 refine w_ ?_
 refine Qf ?_
 subst hO
 exact QF _ _ [(0,0)] (Qm rfl (Qd rfl)) (rfl) ⟨rfl,trivial⟩ rfl rfl
theorem UP (s:List (Int×Int×Int))(q:Int):FC Tryz.prog 324 [(false,[.dat (.sl 226 (.pr .int (.pr .int .int))) s]),(false,[.clo 304 [0]])] [(0,some (.box 3 [dI q]))] 1 (Is (lI (ZH (fun v:DMv=>decide (v.1=q)) s)) [(0,some (.box 3 [dI q]))]):=by
 refine QN Tryz.func324 rfl rfl Tryz.ntmps324 fun O_ hO w0_ N0_ X_ h0_ f0_=> ?_
 iterate 6 refine w_ ?_
 refine AL.fact (Qq (x:= .tmp 6) (Qa rfl)) fun hl1=> ?_
 iterate 4 refine w_ ?_
 refine Qx (fun m_ s_=>∃(k:Nat),k≤s.length∧m_=s.length - k∧(NoneTo (fun v:DMv=>decide (v.1=q)) s k)∧s_=⟨[(0,lf (.dat (.sl 226 (.pr .int (.pr .int .int))) s)),(1,lf (.clo 304 [0])),(7,lI (s.length:Int)),(8,lI (k:Int))],[(0,some (.box 3 [dI q]))]⟩) ⟨0,Nat.zero_le _,rfl,NoneTo.zero,rfl⟩ ?_ ?_
 · exact Wk.of [(0,0)] rfl ⟨rfl,rfl,rfl,rfl,trivial⟩ ⟨rfl,trivial⟩ rfl rfl
 rintro m_ s_ ⟨k,hk2,hm3,hno,rfl⟩
 iterate 4 refine w_ ?_
 cases hb4:(decide ((k:Int) < (s.length:Int)))
 ·have hb4':=of_decide_eq_false hb4
  refine w_ ?_
  refine QB ?_
  refine (?_:AC _ _ _ _ _)
  iterate 3 refine w_ ?_
  refine Qf ?_
  subst hO
  have e5:((-1):Int)=(ZH (fun v:DMv=>decide (v.1=q)) s):=by
   first | exact (hno.no (by omega)).symm
  exact QF _ _ [(0,0)] (Qm rfl (Qd rfl)) ((congrArg (fun z_=>lI z_) e5)) ⟨rfl,trivial⟩ rfl rfl
 ·have hb4':=of_decide_eq_true hb4
  iterate 12 refine w_ ?_
  obtain ⟨x6,hx7⟩:∃z,s[k]? =some z:=⟨_,List.getElem?_eq_getElem (by omega)⟩
  refine lc (Qh (Qa rfl) (Qa rfl) Z6 Zr rfl (by omega) hx7) ?_
  refine w_ ?_
  refine lc (Xi (args0:=[(true,[dI x6.1,dI x6.2.1,dI x6.2.2])]) (caps:=[0]) 1 [(0,0)] (Jb x6 q) QiG rfl (Qa rfl) rfl rfl ⟨_,_,rfl,(Qb rfl),rfl⟩ ⟨rfl,trivial⟩ rfl ⟨trivial,trivial⟩ (nlr rfl)) ?_
  refine w_ ?_
  cases hb8:(decide (x6.1=q))
  ·have hb8':=of_decide_eq_false hb8
   refine w_ ?_
   refine AC.skip ?_
   refine (?_:AC _ _ _ _ _)
   iterate 3 refine w_ ?_
   refine Qk<|QU ⟨k+1,by omega,rfl,hno.step hx7 (by assumption),rfl⟩ (by omega) ?_
   exact Wk.of [(0,0)] rfl ⟨rfl,rfl,rfl,rfl,trivial⟩ ⟨rfl,trivial⟩ rfl rfl
  ·have hb8':=of_decide_eq_true hb8
   iterate 5 refine w_ ?_
   refine Qf ?_
   subst hO
   have e9:((k:Int):Int)=(ZH (fun v:DMv=>decide (v.1=q)) s):=by
    exact (hno.at hx7 (by assumption)).symm
   exact QF _ _ [(0,0)] (Qm rfl (Qd rfl)) ((congrArg (fun z_=>lI z_) e9)) ⟨rfl,trivial⟩ rfl rfl
theorem Vm (s:List (Int×Int×Int))(q:Int):FC Tryz.prog 302 [(false,[.dat (.sl 226 (.pr .int (.pr .int .int))) s]),(false,[.clo 304 [0]])] [(0,some (.box 3 [dI q]))] 1 (Is (lB (s.any (fun v:DMv=>decide (v.1=q)))) [(0,some (.box 3 [dI q]))]):=by
 refine QN Tryz.func302 rfl rfl Tryz.ntmps302 fun O_ hO w0_ N0_ X_ h0_ f0_=> ?_
 iterate 6 refine w_ ?_
 refine lc (Za 1 [(0,0)] (UP s q) Qda ⟨_,_,rfl,(Qb rfl),⟨_,_,rfl,(Qb rfl),rfl⟩⟩ ⟨rfl,trivial⟩ rfl ⟨trivial,trivial⟩ (nlr rfl)) ?_
 iterate 3 refine w_ ?_
 refine Qf ?_
 subst hO
 have e1:(decide (0≤(ZH (fun v:DMv=>decide (v.1=q)) s)):Bool)=(s.any (fun v:DMv=>decide (v.1=q))):=by
  exact W6 _ _
 exact QF _ _ [(0,0)] (Qm rfl (Qd rfl)) ((congrArg (fun z_=>lB z_) e1)) ⟨rfl,trivial⟩ rfl rfl
theorem V2 (s:(Int×(List (List Int×List Int)))×(List (ByteArray×Int))×(List (Int×Bool))×ByteArray)(r:List ByteArray×(List (Int×Int×Int)))[∀s,Decidable (StgOk s)]:FC Tryz.prog 283 [(true,[dI s.1.1, .dat (.sl 159 (.pr (.sl 3 .int) (.sl 3 .int))) s.1.2, .dat (.sl 145 (.pr .str .int)) s.2.1, .dat (.sl 61 (.pr .int .bool)) s.2.2.1,dS s.2.2.2]),(true,[.dat (.sl 9 .str) r.1, .dat (.sl 226 (.pr .int (.pr .int .int))) r.2])] [] 0 (Is (PV.tup [(false,[.ref 0]),(false,[dB ((dtV s r).2)])]) [(0,some (.arr 3 .int ((dtV s r).1)))]):=by
 refine QN Tryz.func283 rfl rfl Tryz.ntmps283 fun O_ hO w0_ N0_ X_ h0_ f0_=> ?_
 refine AC.fact (QG (x:= .tmp 0) (i:=0) (Qb rfl) rfl) fun hi1=> ?_
 refine w_ ?_
 refine lc (Qw 0 (Qb rfl) rfl rfl (Fresh.of rfl) (nlr rfl))<|lc (Qw 1 (Qb rfl) rfl rfl (Fresh.of rfl) (nlr rfl)) ?_
 iterate 6 refine w_ ?_
 refine lc (Qn (Yt s) UO ⟨_,_,rfl,(Qb rfl),rfl⟩ rfl rfl) ?_
 iterate 2 refine w_ ?_
 cases hb2:(decide (StgOk s))
 ·have hb2':=of_decide_eq_false hb2
  iterate 10 refine w_ ?_
  refine AC.wk (Wk.nilS 2 4 3 .int rfl (Fresh.of rfl) (nlr rfl))<|Qf ?_
  subst hO
  have e3:(false:Bool)=((dtV s r).2):=by
   (rw[Qa7 (by assumption)]; done)
  exact QF _ _ [(0,2)] (QC rfl (Qd rfl) (Qd rfl)) ((congrArg (fun z_=>PV.tup [(false,[.ref 2]),(false,[dB z_])]) e3)) ⟨(Qy (by (rw[Qa7 (by assumption)]; done))),trivial⟩ rfl rfl
 ·have hb2':=of_decide_eq_true hb2
  refine w_ ?_
  refine lgy rfl rfl (Qn (UU r) Qdb ⟨_,_,rfl,(Qb rfl),rfl⟩ rfl rfl) ?_
  iterate 3 refine w_ ?_
  cases hb4:(decide (Zd r))
  ·have hb4':=of_decide_eq_false hb4
   iterate 5 refine w_ ?_
   refine AC.wk (Wk.nilS 3 4 3 .int rfl (Fresh.of rfl) (nlr rfl))<|Qf ?_
   subst hO
   have e5:(false:Bool)=((dtV s r).2):=by
    (rw[Qbd (by assumption)]; done)
   exact QF _ _ [(0,3)] (QC rfl (Qd rfl) (Qd rfl)) ((congrArg (fun z_=>PV.tup [(false,[.ref 3]),(false,[dB z_])]) e5)) ⟨(Qy (by (rw[Qbd (by assumption)]; done))),trivial⟩ rfl rfl
  ·have hb4':=of_decide_eq_true hb4
   iterate 3 refine w_ ?_
   refine lc (Qg 4 (e:= .int) QE QO Yf rfl rfl (List.all_eq_true.1 rfl) ⟨rfl,rfl⟩ (by decide) rfl rfl (Fresh.of rfl) (nlr rfl)) ?_
   iterate 6 refine w_ ?_
   refine AL.fact (Qq (x:= .tmp 18) (Qa rfl)) fun hl6=> ?_
   iterate 4 refine w_ ?_
   refine Qx (fun m_ s_=>∃(k:Nat),k≤s.2.2.1.length∧m_=s.2.2.1.length - k∧s_=⟨[(3,lP 1 0),(4,lf (.val (.slice none 0 0))),(5,lB false),(6,lR 5),(19,lI (s.2.2.1.length:Int)),(20,lI (k:Int))],[(1,some (.box 98 [.dat (.sl 9 .str) r.1, .dat (.sl 226 (.pr .int (.pr .int .int))) r.2])),(5,some (.arr 3 .int (XF (byT r) k)))]⟩) ⟨0,Nat.zero_le _,rfl,rfl⟩ ?_ ?_
   · exact Wk.of [(1,1),(5,4)] rfl ⟨rfl,rfl,rfl,rfl,rfl,rfl,trivial⟩ ⟨rfl,(Qy (by first | rfl | simp)),trivial⟩ rfl rfl
   rintro m_ s_ ⟨k,hk7,hm8,rfl⟩
   have hfl:=K2 (byT r) k
   have hnl:s.2.2.1.length≤24:=by rw[‹StgOk s›.len]; exact ‹StgOk s›.net.2.1
   iterate 4 refine w_ ?_
   cases hb9:(decide ((k:Int) < (s.2.2.1.length:Int)))
   ·have hb9':=of_decide_eq_false hb9
    refine w_ ?_
    refine QB ?_
    refine (?_:AC _ _ _ _ _)
    iterate 5 refine w_ ?_
    refine Qf ?_
    subst hO
    have e10:(true:Bool)=((dtV s r).2):=by
     (rw[Qbh (by assumption) (by assumption)]; done)
    exact QF _ _ [(0,5)] (QC rfl (Qd rfl) (Qd rfl)) ((congrArg (fun z_=>PV.tup [(false,[.ref 5]),(false,[dB z_])]) e10)) ⟨(Qy (by (rw[Qbh (by assumption) (by assumption),show k=s.2.2.1.length by omega]; done))),trivial⟩ rfl rfl
   ·have hb9':=of_decide_eq_true hb9
    iterate 6 refine w_ ?_
    refine lc (Qp 6 .int Yf rfl rfl (Fresh.of rfl) (nlr rfl))<|lc (Qe (Qa rfl) rfl (Qb rfl) rfl QO rfl) ?_
    iterate 4 refine w_ ?_
    refine lc (YB ⟨_,_,rfl,(Qa rfl),rfl,rfl⟩ rfl)<|lc (Za 7 [(0,6)] (Ua r.2 (k:Int)) QbP ⟨_,_,rfl,(Qb rfl),⟨_,_,rfl,(Qb rfl),rfl⟩⟩ ⟨rfl,trivial⟩ rfl ⟨trivial,trivial⟩ (nlr rfl)) ?_
    iterate 2 refine w_ ?_
    cases hb11:(r.2.any (fun v:DMv=>decide (v.2.1=(k:Int))))
    ·iterate 4 refine w_ ?_
     refine lc (Qg 8 (e:= .int) QE QO Yf rfl ⟨_,_,rfl,(Qb rfl),rfl⟩ (List.all_eq_true.1 rfl) ⟨_,_,_,_,rfl,⟨rfl,rfl⟩,⟨rfl,rfl⟩,rfl⟩ (by decide) rfl rfl (Fresh.of rfl) (nlr rfl))<|lc (QQ 9 (Qa rfl) rfl (Qa rfl) rfl rfl QE VB (by first | omega | (simp only[List.length_append,List.length_map,List.length_take,List.length_cons,List.length_nil]; omega) | (simp only[List.length_append,List.length_drop,List.length_take,List.length_cons,List.length_nil]; omega)) rfl (Fresh.of rfl) (nlr rfl)) ?_
     refine w_ ?_
     refine Qk ?_
     refine (?_:AC _ _ _ _ _)
     iterate 3 refine w_ ?_
     refine Qk<|QU ⟨k+1,by omega,rfl,rfl⟩ (by omega) ?_
     exact Wk.of [(1,1),(5,9)] rfl ⟨rfl,rfl,rfl,rfl,rfl,rfl,trivial⟩ ⟨rfl,(Qy (by first | exact YO (f:=byT r) (by assumption) | exact Xz (f:=byT r) (by assumption))),trivial⟩ rfl rfl
    ·refine w_ ?_
     refine AC.skip ?_
     refine (?_:AC _ _ _ _ _)
     iterate 3 refine w_ ?_
     refine Qk<|QU ⟨k+1,by omega,rfl,rfl⟩ (by omega) ?_
     exact Wk.of [(1,1),(5,5)] rfl ⟨rfl,rfl,rfl,rfl,rfl,rfl,trivial⟩ ⟨rfl,(Qy (by first | exact YO (f:=byT r) (by assumption) | exact Xz (f:=byT r) (by assumption))),trivial⟩ rfl rfl
theorem J0 (r:List ByteArray×(List (Int×Int×Int))):FC Tryz.prog 284 [(true,[.dat (.sl 9 .str) r.1, .dat (.sl 226 (.pr .int (.pr .int .int))) r.2])] [] 0 (Is (PV.tup [(false,[.ref 0]),(false,[dB ((dlV r).2)])]) [(0,some (.arr 3 .int ((dlV r).1)))]):=by
 refine QN Tryz.func284 rfl rfl Tryz.ntmps284 fun O_ hO w0_ N0_ X_ h0_ f0_=> ?_
 refine w_ ?_
 refine lc (Qw 0 (Qb rfl) rfl rfl (Fresh.of rfl) (nlr rfl)) ?_
 iterate 6 refine w_ ?_
 refine lc (Qn (UU r) Qdb ⟨_,_,rfl,(Qb rfl),rfl⟩ rfl rfl) ?_
 iterate 2 refine w_ ?_
 cases hb1:(decide (Zd r))
 ·have hb1':=of_decide_eq_false hb1
  iterate 5 refine w_ ?_
  refine AC.wk (Wk.nilS 1 2 3 .int rfl (Fresh.of rfl) (nlr rfl))<|Qf ?_
  subst hO
  have e2:(false:Bool)=((dlV r).2):=by
   (rw[Qe4 (by assumption)]; done)
  exact QF _ _ [(0,1)] (QC rfl (Qd rfl) (Qd rfl)) ((congrArg (fun z_=>PV.tup [(false,[.ref 1]),(false,[dB z_])]) e2)) ⟨(Qy (by (rw[Qe4 (by assumption)]; done))),trivial⟩ rfl rfl
 ·have hb1':=of_decide_eq_true hb1
  iterate 3 refine w_ ?_
  refine lc (Qg 2 (e:= .int) QE QO Yf rfl rfl (List.all_eq_true.1 rfl) ⟨rfl,rfl⟩ (by decide) rfl rfl (Fresh.of rfl) (nlr rfl)) ?_
  iterate 6 refine w_ ?_
  refine AL.fact (Qq (x:= .tmp 11) (Qa rfl)) fun hl3=> ?_
  iterate 4 refine w_ ?_
  refine Qx (fun m_ s_=>∃(k:Nat),k≤r.1.length∧m_=r.1.length - k∧s_=⟨[(1,lP 0 0),(2,lf (.val (.slice none 0 0))),(3,lB false),(4,lR 3),(12,lI (r.1.length:Int)),(13,lI (k:Int))],[(0,some (.box 98 [.dat (.sl 9 .str) r.1, .dat (.sl 226 (.pr .int (.pr .int .int))) r.2])),(3,some (.arr 3 .int (XF (XQ r) k)))]⟩) ⟨0,Nat.zero_le _,rfl,rfl⟩ ?_ ?_
  · exact Wk.of [(0,0),(3,2)] rfl ⟨rfl,rfl,rfl,rfl,rfl,rfl,trivial⟩ ⟨rfl,(Qy (by first | rfl | simp)),trivial⟩ rfl rfl
  rintro m_ s_ ⟨k,hk4,hm5,rfl⟩
  have hfl:=K2 (XQ r) k
  have hgl:=‹Zd r›.1.2
  iterate 4 refine w_ ?_
  cases hb6:(decide ((k:Int) < (r.1.length:Int)))
  ·have hb6':=of_decide_eq_false hb6
   refine w_ ?_
   refine QB ?_
   refine (?_:AC _ _ _ _ _)
   iterate 5 refine w_ ?_
   refine Qf ?_
   subst hO
   have e7:(true:Bool)=((dlV r).2):=by
    (rw[Qbm (by assumption)]; done)
   exact QF _ _ [(0,3)] (QC rfl (Qd rfl) (Qd rfl)) ((congrArg (fun z_=>PV.tup [(false,[.ref 3]),(false,[dB z_])]) e7)) ⟨(Qy (by (rw[Qbm (by assumption),show k=r.1.length by omega]; done))),trivial⟩ rfl rfl
  ·have hb6':=of_decide_eq_true hb6
   iterate 6 refine w_ ?_
   refine lc (Qp 4 .int Yf rfl rfl (Fresh.of rfl) (nlr rfl))<|lc (Qe (Qa rfl) rfl (Qb rfl) rfl QO rfl) ?_
   iterate 4 refine w_ ?_
   refine lc (YB ⟨_,_,rfl,(Qa rfl),rfl,rfl⟩ rfl)<|lc (Za 5 [(0,4)] (Vm r.2 (k:Int)) QbP ⟨_,_,rfl,(Qb rfl),⟨_,_,rfl,(Qb rfl),rfl⟩⟩ ⟨rfl,trivial⟩ rfl ⟨trivial,trivial⟩ (nlr rfl)) ?_
   iterate 2 refine w_ ?_
   cases hb8:(r.2.any (fun v:DMv=>decide (v.1=(k:Int))))
   ·iterate 4 refine w_ ?_
    refine lc (Qg 6 (e:= .int) QE QO Yf rfl ⟨_,_,rfl,(Qb rfl),rfl⟩ (List.all_eq_true.1 rfl) ⟨_,_,_,_,rfl,⟨rfl,rfl⟩,⟨rfl,rfl⟩,rfl⟩ (by decide) rfl rfl (Fresh.of rfl) (nlr rfl))<|lc (QQ 7 (Qa rfl) rfl (Qa rfl) rfl rfl QE VB (by first | omega | (simp only[List.length_append,List.length_map,List.length_take,List.length_cons,List.length_nil]; omega) | (simp only[List.length_append,List.length_drop,List.length_take,List.length_cons,List.length_nil]; omega)) rfl (Fresh.of rfl) (nlr rfl)) ?_
    refine w_ ?_
    refine Qk ?_
    refine (?_:AC _ _ _ _ _)
    iterate 3 refine w_ ?_
    refine Qk<|QU ⟨k+1,by omega,rfl,rfl⟩ (by omega) ?_
    exact Wk.of [(0,0),(3,7)] rfl ⟨rfl,rfl,rfl,rfl,rfl,rfl,trivial⟩ ⟨rfl,(Qy (by first | exact YO (f:=XQ r) (by assumption) | exact Xz (f:=XQ r) (by assumption))),trivial⟩ rfl rfl
   ·refine w_ ?_
    refine AC.skip ?_
    refine (?_:AC _ _ _ _ _)
    iterate 3 refine w_ ?_
    refine Qk<|QU ⟨k+1,by omega,rfl,rfl⟩ (by omega) ?_
    exact Wk.of [(0,0),(3,3)] rfl ⟨rfl,rfl,rfl,rfl,rfl,rfl,trivial⟩ ⟨rfl,(Qy (by first | exact YO (f:=XQ r) (by assumption) | exact Xz (f:=XQ r) (by assumption))),trivial⟩ rfl rfl
theorem Hq (r:List ByteArray×(List (Int×Int×Int)))(k:Int):FC Tryz.prog 323 [(true,[.dat (.sl 9 .str) r.1, .dat (.sl 226 (.pr .int (.pr .int .int))) r.2]),(false,[dI k])] [] 0 (Is (PV.tup [(false,[.ref 0]),(false,[dB ((mfV r k).2)])]) [(0,some (.arr 226 (.pr .int (.pr .int .int)) ((mfV r k).1)))]):=by
 refine QN Tryz.func323 rfl rfl Tryz.ntmps323 fun O_ hO w0_ N0_ X_ h0_ f0_=> ?_
 refine AC.fact (QA (x:= .tmp 1) (Qa rfl)) fun hi1=> ?_
 refine w_ ?_
 refine lc (Qw 0 (Qb rfl) rfl rfl (Fresh.of rfl) (nlr rfl)) ?_
 iterate 6 refine w_ ?_
 refine lc (Qn (Vc r) JC ⟨_,_,rfl,(Qb rfl),rfl⟩ rfl rfl) ?_
 iterate 2 refine w_ ?_
 cases hb2:(decide (Zd r))
 ·have hb2':=of_decide_eq_false hb2
  iterate 14 refine w_ ?_
  refine AC.wk (Wk.nilS 1 4 226 (.pr .int (.pr .int .int)) rfl (Fresh.of rfl) (nlr rfl))<|Qf ?_
  subst hO
  have e3:(false:Bool)=((mfV r k).2):=by
   (rw[QjL (by assumption)]; done)
  exact QF _ _ [(0,1)] (QC rfl (Qd rfl) (Qd rfl)) ((congrArg (fun z_=>PV.tup [(false,[.ref 1]),(false,[dB z_])]) e3)) ⟨(Qy (by (rw[QjL (by assumption)]; done))),trivial⟩ rfl rfl
 ·have hb2':=of_decide_eq_true hb2
  iterate 3 refine w_ ?_
  refine AL.fact (Qq (x:= .tmp 15) (Qa rfl)) fun hl4=> ?_
  iterate 2 refine w_ ?_
  refine lgy rfl rfl (Qn (Ys k 0 ((r.1.length:Int) - 1)) Xl ⟨_,_,rfl,(Qb rfl),⟨_,_,rfl,(Evl.ev (QM rfl)),⟨_,_,rfl,(Qb rfl),rfl⟩⟩⟩ rfl rfl) ?_
  iterate 3 refine w_ ?_
  cases hb5:(decide (0≤k∧k≤((r.1.length:Int) - 1)))
  ·have hb5':=of_decide_eq_false hb5
   iterate 5 refine w_ ?_
   refine AC.wk (Wk.nilS 2 4 226 (.pr .int (.pr .int .int)) rfl (Fresh.of rfl) (nlr rfl))<|Qf ?_
   subst hO
   have e6:(false:Bool)=((mfV r k).2):=by
    (rw[QjG (by assumption)]; done)
   exact QF _ _ [(0,2)] (QC rfl (Qd rfl) (Qd rfl)) ((congrArg (fun z_=>PV.tup [(false,[.ref 2]),(false,[dB z_])]) e6)) ⟨(Qy (by (rw[QjG (by assumption)]; done))),trivial⟩ rfl rfl
  ·have hb5':=of_decide_eq_true hb5
   iterate 9 refine w_ ?_
   refine AL.fact (Qq (x:= .tmp 22) (Qa rfl)) fun hl7=> ?_
   iterate 4 refine w_ ?_
   refine AC.wk (Wk.nilS 3 6 226 (.pr .int (.pr .int .int)) rfl (Fresh.of rfl) (nlr rfl)) ?_
   refine Qx (fun m_ s_=>∃(i:Nat),i≤r.2.length∧m_=r.2.length - i∧s_=⟨[(1,lI k),(4,lf (.val (.slice none 0 0))),(5,lB false),(6,lR 4),(22,lf (.dat (.sl 226 (.pr .int (.pr .int .int))) r.2)),(23,lI (r.2.length:Int)),(24,lI (i:Int))],[(4,some (.arr 226 (.pr .int (.pr .int .int)) (QaO k (r.2.take i))))]⟩) ⟨0,Nat.zero_le _,rfl,rfl⟩ ?_ ?_
   · exact Wk.of [(4,3)] rfl ⟨rfl,rfl,rfl,rfl,rfl,rfl,rfl,trivial⟩ ⟨(Qy (by first | rfl | simp)),trivial⟩ rfl rfl
   rintro m_ s_ ⟨i,hk8,hm9,rfl⟩
   have hfl:=Qj6 (k:=k) i ‹Zd r›.2.1
   iterate 4 refine w_ ?_
   cases hb10:(decide ((i:Int) < (r.2.length:Int)))
   ·have hb10':=of_decide_eq_false hb10
    refine w_ ?_
    refine QB ?_
    refine (?_:AC _ _ _ _ _)
    iterate 5 refine w_ ?_
    refine Qf ?_
    subst hO
    have e11:(true:Bool)=((mfV r k).2):=by
     (rw[QeW (by assumption) (by assumption)]; done)
    exact QF _ _ [(0,4)] (QC rfl (Qd rfl) (Qd rfl)) ((congrArg (fun z_=>PV.tup [(false,[.ref 4]),(false,[dB z_])]) e11)) ⟨(Qy (by (rw[QeW (by assumption) (by assumption),Yi (by omega)]; rfl))),trivial⟩ rfl rfl
   ·have hb10':=of_decide_eq_true hb10
    iterate 5 refine w_ ?_
    obtain ⟨x12,hx13⟩:∃z,r.2[i]? =some z:=⟨_,List.getElem?_eq_getElem (by omega)⟩
    refine lc (Qh (Qa rfl) (Qa rfl) Z6 Zr rfl (by omega) hx13) ?_
    refine w_ ?_
    refine lc (Qp 5 (.pr .int (.pr .int .int)) Yu rfl rfl (Fresh.of rfl) (nlr rfl))<|lc (Qe (Qa rfl) rfl (Qb rfl) rfl Zr rfl) ?_
    iterate 4 refine w_ ?_
    refine AL.fact (QA (x:= .tmp 29) (Qa rfl)) fun hi14=> ?_
    iterate 3 refine w_ ?_
    cases hb15:(decide (x12.1=k))
    ·have hb15':=of_decide_eq_false hb15
     refine w_ ?_
     refine AC.skip ?_
     refine (?_:AC _ _ _ _ _)
     iterate 3 refine w_ ?_
     refine Qk<|QU ⟨i+1,by omega,rfl,rfl⟩ (by omega) ?_
     exact Wk.of [(4,4)] rfl ⟨rfl,rfl,rfl,rfl,rfl,rfl,rfl,trivial⟩ ⟨(Qy (by first | exact Qgk hx13 (by assumption) | exact Qji hx13 (by assumption))),trivial⟩ rfl rfl
    ·have hb15':=of_decide_eq_true hb15
     iterate 4 refine w_ ?_
     refine lc (Qg 6 (e:=(.pr .int (.pr .int .int))) Z6 Zr Yu rfl ⟨_,_,rfl,(Qb rfl),rfl⟩ (List.all_eq_true.1 rfl) ⟨_,_,_,_,rfl,⟨[dI x12.1],[dI x12.2.1,dI x12.2.2],_,_,_,_,rfl,rfl,⟨rfl,rfl⟩,⟨[dI x12.2.1],[dI x12.2.2],_,_,_,_,rfl,rfl,⟨rfl,rfl⟩,⟨rfl,rfl⟩,rfl⟩,rfl⟩,⟨rfl,rfl⟩,rfl⟩ (by decide) rfl rfl (Fresh.of rfl) (nlr rfl))<|lc (QQ 7 (Qa rfl) rfl (Qa rfl) rfl rfl Z6 KI (by first | omega | (simp only[List.length_append,List.length_map,List.length_take,List.length_cons,List.length_nil]; omega) | (simp only[List.length_append,List.length_drop,List.length_take,List.length_cons,List.length_nil]; omega)) rfl (Fresh.of rfl) (nlr rfl)) ?_
     refine w_ ?_
     refine Qk ?_
     refine (?_:AC _ _ _ _ _)
     iterate 3 refine w_ ?_
     refine Qk<|QU ⟨i+1,by omega,rfl,rfl⟩ (by omega) ?_
     exact Wk.of [(4,7)] rfl ⟨rfl,rfl,rfl,rfl,rfl,rfl,rfl,trivial⟩ ⟨(Qy (by first | exact Qgk hx13 (by assumption) | exact Qji hx13 (by assumption))),trivial⟩ rfl rfl
theorem HL (r:List ByteArray×(List (Int×Int×Int))):FC Tryz.prog 299 [(true,[.dat (.sl 9 .str) r.1, .dat (.sl 226 (.pr .int (.pr .int .int))) r.2])] [] 0 (Is (PV.tup [(false,[.ref 0]),(false,[dB ((dlV r).2)])]) [(0,some (.arr 3 .int ((dlV r).1)))]):=by
 refine QN Tryz.func299 rfl rfl Tryz.ntmps299 fun O_ hO w0_ N0_ X_ h0_ f0_=> ?_
 refine w_ ?_
 refine lc (Qw 0 (Qb rfl) rfl rfl (Fresh.of rfl) (nlr rfl)) ?_
 iterate 6 refine w_ ?_
 refine lc (Qn (Vc r) JC ⟨_,_,rfl,(Qb rfl),rfl⟩ rfl rfl) ?_
 iterate 2 refine w_ ?_
 cases hb1:(decide (Zd r))
 ·have hb1':=of_decide_eq_false hb1
  iterate 5 refine w_ ?_
  refine AC.wk (Wk.nilS 1 2 3 .int rfl (Fresh.of rfl) (nlr rfl))<|Qf ?_
  subst hO
  have e2:(false:Bool)=((dlV r).2):=by
   (rw[Qe4 (by assumption)]; done)
  exact QF _ _ [(0,1)] (QC rfl (Qd rfl) (Qd rfl)) ((congrArg (fun z_=>PV.tup [(false,[.ref 1]),(false,[dB z_])]) e2)) ⟨(Qy (by (rw[Qe4 (by assumption)]; done))),trivial⟩ rfl rfl
 ·have hb1':=of_decide_eq_true hb1
  iterate 9 refine w_ ?_
  refine AL.fact (Qq (x:= .tmp 12) (Qa rfl)) fun hl3=> ?_
  iterate 4 refine w_ ?_
  refine AC.wk (Wk.nilS 2 4 3 .int rfl (Fresh.of rfl) (nlr rfl)) ?_
  refine Qx (fun m_ s_=>∃(k:Nat),k≤r.1.length∧m_=r.1.length - k∧s_=⟨[(1,lP 0 0),(2,lf (.val (.slice none 0 0))),(3,lB false),(4,lR 3),(13,lI (r.1.length:Int)),(14,lI (k:Int))],[(0,some (.box 98 [.dat (.sl 9 .str) r.1, .dat (.sl 226 (.pr .int (.pr .int .int))) r.2])),(3,some (.arr 3 .int (XF (XQ r) k)))]⟩) ⟨0,Nat.zero_le _,rfl,rfl⟩ ?_ ?_
  · exact Wk.of [(0,0),(3,2)] rfl ⟨rfl,rfl,rfl,rfl,rfl,rfl,trivial⟩ ⟨rfl,(Qy (by first | rfl | simp)),trivial⟩ rfl rfl
  rintro m_ s_ ⟨k,hk4,hm5,rfl⟩
  have hfl:=K2 (XQ r) k
  have hgl:=‹Zd r›.1.2
  iterate 4 refine w_ ?_
  cases hb6:(decide ((k:Int) < (r.1.length:Int)))
  ·have hb6':=of_decide_eq_false hb6
   refine w_ ?_
   refine QB ?_
   refine (?_:AC _ _ _ _ _)
   iterate 5 refine w_ ?_
   refine Qf ?_
   subst hO
   have e7:(true:Bool)=((dlV r).2):=by
    (rw[Qbm (by assumption)]; done)
   exact QF _ _ [(0,3)] (QC rfl (Qd rfl) (Qd rfl)) ((congrArg (fun z_=>PV.tup [(false,[.ref 3]),(false,[dB z_])]) e7)) ⟨(Qy (by (rw[Qbm (by assumption),show k=r.1.length by omega]; done))),trivial⟩ rfl rfl
  ·have hb6':=of_decide_eq_true hb6
   iterate 11 refine w_ ?_
   refine lc (Qn (Hq r (k:Int)).frozenG Qh0 ⟨_,_,rfl,(Qb rfl),⟨_,_,rfl,(Qb rfl),rfl⟩⟩ rfl rfl) ?_
   iterate 8 refine w_ ?_
   refine AL.fact (Qq (x:= .tmp 23) (Qa rfl)) fun hl8=> ?_
   iterate 3 refine w_ ?_
   cases hb9:(decide ((((mfV r (k:Int)).1).length:Int)=0))
   ·have hb9':=of_decide_eq_false hb9
    refine w_ ?_
    refine AC.skip ?_
    refine (?_:AC _ _ _ _ _)
    iterate 3 refine w_ ?_
    refine Qk<|QU ⟨k+1,by omega,rfl,rfl⟩ (by omega) ?_
    exact Wk.of [(0,0),(3,3)] rfl ⟨rfl,rfl,rfl,rfl,rfl,rfl,trivial⟩ ⟨rfl,(Qy (by first | exact YO (f:=XQ r) (QoW ‹Zd r› (by omega) (by assumption)) | exact Xz (f:=XQ r) (QpF ‹Zd r› (by omega) (by assumption)))),trivial⟩ rfl rfl
   ·have hb9':=of_decide_eq_true hb9
    iterate 4 refine w_ ?_
    refine lc (Qg 4 (e:= .int) QE QO Yf rfl ⟨_,_,rfl,(Qb rfl),rfl⟩ (List.all_eq_true.1 rfl) ⟨_,_,_,_,rfl,⟨rfl,rfl⟩,⟨rfl,rfl⟩,rfl⟩ (by decide) rfl rfl (Fresh.of rfl) (nlr rfl))<|lc (QQ 5 (Qa rfl) rfl (Qa rfl) rfl rfl QE VB (by first | omega | (simp only[List.length_append,List.length_map,List.length_take,List.length_cons,List.length_nil]; omega) | (simp only[List.length_append,List.length_drop,List.length_take,List.length_cons,List.length_nil]; omega)) rfl (Fresh.of rfl) (nlr rfl)) ?_
    refine w_ ?_
    refine Qk ?_
    refine (?_:AC _ _ _ _ _)
    iterate 3 refine w_ ?_
    refine Qk<|QU ⟨k+1,by omega,rfl,rfl⟩ (by omega) ?_
    exact Wk.of [(0,0),(3,5)] rfl ⟨rfl,rfl,rfl,rfl,rfl,rfl,trivial⟩ ⟨rfl,(Qy (by first | exact YO (f:=XQ r) (QoW ‹Zd r› (by omega) (by assumption)) | exact Xz (f:=XQ r) (QpF ‹Zd r› (by omega) (by assumption)))),trivial⟩ rfl rfl
theorem Uf (s:(Int×(List (List Int×List Int)))×(List (ByteArray×Int))×(List (Int×Bool))×ByteArray)(r:List ByteArray×(List (Int×Int×Int)))[∀s,Decidable (StgOk s)]:FC Tryz.prog 298 [(true,[dI s.1.1, .dat (.sl 159 (.pr (.sl 3 .int) (.sl 3 .int))) s.1.2, .dat (.sl 145 (.pr .str .int)) s.2.1, .dat (.sl 61 (.pr .int .bool)) s.2.2.1,dS s.2.2.2]),(true,[.dat (.sl 9 .str) r.1, .dat (.sl 226 (.pr .int (.pr .int .int))) r.2])] [] 0 (Is (PV.tup [(false,[.ref 0]),(false,[dB ((dtV s r).2)])]) [(0,some (.arr 3 .int ((dtV s r).1)))]):=by
 refine QN Tryz.func298 rfl rfl Tryz.ntmps298 fun O_ hO w0_ N0_ X_ h0_ f0_=> ?_
 refine AC.fact (QG (x:= .tmp 0) (i:=0) (Qb rfl) rfl) fun hi1=> ?_
 refine w_ ?_
 refine lc (Qw 0 (Qb rfl) rfl rfl (Fresh.of rfl) (nlr rfl))<|lc (Qw 1 (Qb rfl) rfl rfl (Fresh.of rfl) (nlr rfl)) ?_
 iterate 6 refine w_ ?_
 refine lc (Qn (YJ s) W2 ⟨_,_,rfl,(Qb rfl),rfl⟩ rfl rfl) ?_
 iterate 2 refine w_ ?_
 cases hb2:(decide (StgOk s))
 ·have hb2':=of_decide_eq_false hb2
  iterate 10 refine w_ ?_
  refine AC.wk (Wk.nilS 2 4 3 .int rfl (Fresh.of rfl) (nlr rfl))<|Qf ?_
  subst hO
  have e3:(false:Bool)=((dtV s r).2):=by
   (rw[Qa7 (by assumption)]; done)
  exact QF _ _ [(0,2)] (QC rfl (Qd rfl) (Qd rfl)) ((congrArg (fun z_=>PV.tup [(false,[.ref 2]),(false,[dB z_])]) e3)) ⟨(Qy (by (rw[Qa7 (by assumption)]; done))),trivial⟩ rfl rfl
 ·have hb2':=of_decide_eq_true hb2
  refine w_ ?_
  refine lgy rfl rfl (Qn (Vc r) JC ⟨_,_,rfl,(Qb rfl),rfl⟩ rfl rfl) ?_
  iterate 3 refine w_ ?_
  cases hb4:(decide (Zd r))
  ·have hb4':=of_decide_eq_false hb4
   iterate 5 refine w_ ?_
   refine AC.wk (Wk.nilS 3 4 3 .int rfl (Fresh.of rfl) (nlr rfl))<|Qf ?_
   subst hO
   have e5:(false:Bool)=((dtV s r).2):=by
    (rw[Qbd (by assumption)]; done)
   exact QF _ _ [(0,3)] (QC rfl (Qd rfl) (Qd rfl)) ((congrArg (fun z_=>PV.tup [(false,[.ref 3]),(false,[dB z_])]) e5)) ⟨(Qy (by (rw[Qbd (by assumption)]; done))),trivial⟩ rfl rfl
  ·have hb4':=of_decide_eq_true hb4
   iterate 10 refine w_ ?_
   refine AL.fact (Qq (x:= .tmp 21) (Qa rfl)) fun hl6=> ?_
   iterate 4 refine w_ ?_
   refine AC.wk (Wk.nilS 4 6 3 .int rfl (Fresh.of rfl) (nlr rfl)) ?_
   refine Qx (fun m_ s_=>∃(k:Nat),k≤s.1.2.length∧m_=s.1.2.length - k∧s_=⟨[(3,lP 1 0),(4,lf (.val (.slice none 0 0))),(5,lB false),(6,lR 5),(22,lI (s.1.2.length:Int)),(23,lI (k:Int))],[(1,some (.box 98 [.dat (.sl 9 .str) r.1, .dat (.sl 226 (.pr .int (.pr .int .int))) r.2])),(5,some (.arr 3 .int (XF (byT r) k)))]⟩) ⟨0,Nat.zero_le _,rfl,rfl⟩ ?_ ?_
   · exact Wk.of [(1,1),(5,4)] rfl ⟨rfl,rfl,rfl,rfl,rfl,rfl,trivial⟩ ⟨rfl,(Qy (by first | rfl | simp)),trivial⟩ rfl rfl
   rintro m_ s_ ⟨k,hk7,hm8,rfl⟩
   have hfl:=K2 (byT r) k
   have hnl:=‹StgOk s›.net.2.1
   iterate 4 refine w_ ?_
   cases hb9:(decide ((k:Int) < (s.1.2.length:Int)))
   ·have hb9':=of_decide_eq_false hb9
    refine w_ ?_
    refine QB ?_
    refine (?_:AC _ _ _ _ _)
    iterate 5 refine w_ ?_
    refine Qf ?_
    subst hO
    have e10:(true:Bool)=((dtV s r).2):=by
     (rw[Qbh (by assumption) (by assumption)]; done)
    exact QF _ _ [(0,5)] (QC rfl (Qd rfl) (Qd rfl)) ((congrArg (fun z_=>PV.tup [(false,[.ref 5]),(false,[dB z_])]) e10)) ⟨(Qy (by (rw[Qbh (by assumption) (by assumption),(‹StgOk s›).len,show k=s.1.2.length by omega]; done))),trivial⟩ rfl rfl
   ·have hb9':=of_decide_eq_true hb9
    iterate 15 refine w_ ?_
    refine AL.fact (Qq (x:= .tmp 27) (Qa rfl)) fun hl11=> ?_
    iterate 4 refine w_ ?_
    refine Qx (fun m_ s_=>∃(i:Nat) (met:Bool),i≤r.2.length∧m_=r.2.length - i∧(met=(r.2.take i).any (fun v:DMv=>decide (v.2.1=(k:Int))))∧s_=⟨[(3,lP 1 0),(4,lf (.val (.slice none 0 0))),(5,lB false),(6,lR 5),(7,lI (k:Int)),(8,lB met),(22,lI (s.1.2.length:Int)),(23,lI (k:Int)),(24,lB true),(25,lI (k:Int)),(26,lP 1 1),(27,lf (.dat (.sl 226 (.pr .int (.pr .int .int))) r.2)),(28,lI (r.2.length:Int)),(29,lI (i:Int))],[(1,some (.box 98 [.dat (.sl 9 .str) r.1, .dat (.sl 226 (.pr .int (.pr .int .int))) r.2])),(5,some (.arr 3 .int (XF (byT r) k)))]⟩) ⟨0,false,Nat.zero_le _,rfl,rfl,rfl⟩ ?_ ?_
    · exact Wk.of [(1,1),(5,5)] rfl ⟨rfl,rfl,rfl,rfl,rfl,rfl,rfl,rfl,rfl,rfl,rfl,rfl,rfl,rfl,trivial⟩ ⟨rfl,rfl,trivial⟩ rfl rfl
    rintro m_ s_ ⟨i,met,hk12,hm13,hF,rfl⟩
    iterate 4 refine w_ ?_
    cases hb14:(decide ((i:Int) < (r.2.length:Int)))
    ·have hb14':=of_decide_eq_false hb14
     refine w_ ?_
     refine QB ?_
     refine (?_:AC _ _ _ _ _)
     iterate 4 refine w_ ?_
     cases hb15:(met)
     ·iterate 4 refine w_ ?_
      refine lc (Qg 6 (e:= .int) QE QO Yf rfl ⟨_,_,rfl,(Qb rfl),rfl⟩ (List.all_eq_true.1 rfl) ⟨_,_,_,_,rfl,⟨rfl,rfl⟩,⟨rfl,rfl⟩,rfl⟩ (by decide) rfl rfl (Fresh.of rfl) (nlr rfl))<|lc (QQ 7 (Qa rfl) rfl (Qa rfl) rfl rfl QE VB (by first | omega | (simp only[List.length_append,List.length_map,List.length_take,List.length_cons,List.length_nil]; omega) | (simp only[List.length_append,List.length_drop,List.length_take,List.length_cons,List.length_nil]; omega)) rfl (Fresh.of rfl) (nlr rfl)) ?_
      refine w_ ?_
      refine Qk ?_
      refine (?_:AC _ _ _ _ _)
      iterate 3 refine w_ ?_
      refine Qk<|QU ⟨k+1,by omega,rfl,rfl⟩ (by omega) ?_
      exact Wk.of [(1,1),(5,7)] rfl ⟨rfl,rfl,rfl,rfl,rfl,rfl,trivial⟩ ⟨rfl,(Qy (by first | exact YO (f:=byT r) (by rw[Yi (by omega)] at hF; rw[byT,← hF]; assumption) | exact Xz (f:=byT r) (by rw[Yi (by omega)] at hF; rw[byT,← hF]; assumption))),trivial⟩ rfl rfl
     ·refine w_ ?_
      refine AC.skip ?_
      refine (?_:AC _ _ _ _ _)
      iterate 3 refine w_ ?_
      refine Qk<|QU ⟨k+1,by omega,rfl,rfl⟩ (by omega) ?_
      exact Wk.of [(1,1),(5,5)] rfl ⟨rfl,rfl,rfl,rfl,rfl,rfl,trivial⟩ ⟨rfl,(Qy (by first | exact YO (f:=byT r) (by rw[Yi (by omega)] at hF; rw[byT,← hF]; assumption) | exact Xz (f:=byT r) (by rw[Yi (by omega)] at hF; rw[byT,← hF]; assumption))),trivial⟩ rfl rfl
    ·have hb14':=of_decide_eq_true hb14
     iterate 5 refine w_ ?_
     obtain ⟨x16,hx17⟩:∃z,r.2[i]? =some z:=⟨_,List.getElem?_eq_getElem (by omega)⟩
     refine lc (Qh (Qa rfl) (Qa rfl) Z6 Zr rfl (by omega) hx17) ?_
     refine w_ ?_
     refine lc (Qp 8 (.pr .int (.pr .int .int)) Yu rfl rfl (Fresh.of rfl) (nlr rfl))<|lc (Qe (Qa rfl) rfl (Qb rfl) rfl Zr rfl) ?_
     iterate 4 refine w_ ?_
     cases hb18:(met)
     ·iterate 6 refine w_ ?_
      refine Qk ?_
      refine (?_:AC _ _ _ _ _)
      iterate 3 refine w_ ?_
      refine Qk<|QU ⟨i+1,(decide (x16.2.1=(k:Int))),by omega,rfl,(by rw[Qgd hx17,← hF]; first | exact Qa1 (by assumption) | exact QaW (by assumption)),rfl⟩ (by omega) ?_
      exact Wk.of [(1,1),(5,5)] rfl ⟨rfl,rfl,rfl,rfl,rfl,rfl,rfl,rfl,rfl,rfl,rfl,rfl,rfl,rfl,trivial⟩ ⟨rfl,rfl,trivial⟩ rfl rfl
     ·iterate 6 refine w_ ?_
      refine Qk ?_
      refine (?_:AC _ _ _ _ _)
      iterate 3 refine w_ ?_
      refine Qk<|QU ⟨i+1,true,by omega,rfl,(by rw[Qgd hx17,← hF]; first | exact Qa1 (by assumption) | exact QaW (by assumption)),rfl⟩ (by omega) ?_
      exact Wk.of [(1,1),(5,5)] rfl ⟨rfl,rfl,rfl,rfl,rfl,rfl,rfl,rfl,rfl,rfl,rfl,rfl,rfl,rfl,trivial⟩ ⟨rfl,rfl,trivial⟩ rfl rfl
end Go.Proofs.YtnakmhfjafecpaaGreat
