/- Walks over abstract states: valid reachability graphs, dead transitions, deadlocks. -/
import Derived.Test.YtndabgcpnmeeoaaGreatOWq
set_option linter.unusedSimpArgs false
set_option linter.unusedVariables false
set_option linter.unusedSectionVars false
namespace Go.Proofs.YtndabgcpnmeeoaaGreat
open Go.RowKit
set_option maxRecDepth 100000
set_option maxHeartbeats 4000000
abbrev DRg:=List ByteArray×List DMv
instance (n m:Nat) (v:DMv):Decidable (MvOk n m v):=inferInstanceAs (Decidable (_∧_))
def ZX (r:DRg):Prop:=(1≤r.1.length∧r.1.length≤300)∧r.2.length≤4000∧r.1.Nodup∧∀v∈r.2,MvOk r.1.length 24 v
instance (r:DRg):Decidable (ZX r):=inferInstanceAs (Decidable (_∧_))
def Qah (l:List ByteArray):List (ByteArray×Bool):=l.foldl (fun m x=>Yl .str m x true) []
section
variable {r:DRg}{k:Nat}{x y:ByteArray}{v:DMv}{l:List ByteArray}{m:List (ByteArray×Bool)}
theorem Qr9:(∃p∈m,p.1=x)∧(Yl .str m x true).length=m.length∧(∀z,(∃p∈Yl .str m x true,p.1=z)↔∃p∈m,p.1=z)∨(¬∃p∈m,p.1=x)∧Yl .str m x true=m++[(x,true)]:=by
 by_cases h:∃p∈m,p.1=x
 ·refine .inl ⟨h, ?_⟩
  induction m with
  | nil=>obtain ⟨p,a,_⟩:=h; cases a
  | cons q m s=>
   unfold Yl
   by_cases e:Ty.beq .str q.1 x=true
   ·rw[if_pos e]
    have c:q.1=x:=(Ty.beq_iff .str q.1 x).1 e
    refine ⟨by simp,fun z=> ?_⟩
    simp[c]
   ·rw[if_neg e]
    obtain ⟨p,a,i⟩:=h
    rcases aE.1 a with rfl | a
    ·exact absurd ((Ty.beq_iff .str p.1 x).2 i) e
    ·obtain ⟨o,j⟩:=s ⟨p,a,i⟩
     refine ⟨by simp[o],fun z=> ?_⟩
     constructor
     ·rintro ⟨p,a,d⟩
      rcases aE.1 a with rfl | a
      ·exact ⟨p,aw ..,d⟩
      ·obtain ⟨g,b,c⟩:=(j z).1 ⟨p,a,d⟩
       exact ⟨g,ax _ b,c⟩
     ·rintro ⟨p,a,d⟩
      rcases aE.1 a with rfl | a
      ·exact ⟨p,aw ..,d⟩
      ·obtain ⟨g,b,c⟩:=(j z).2 ⟨p,a,d⟩
       exact ⟨g,ax _ b,c⟩
 ·exact .inr ⟨h,QcA fun p a e=>h ⟨p,a,e⟩⟩
theorem Qki (l:List ByteArray):∀m:List (ByteArray×Bool),(l.foldl (fun m x=>Yl .str m x true) m).length≤m.length+l.length∧((l.foldl (fun m x=>Yl .str m x true) m).length=m.length+l.length↔l.Nodup∧∀x∈l,¬∃p∈m,p.1=x):=by
 induction l with
 | nil=>intro m; simp
 | cons x l t=>
  intro m
  obtain ⟨i,c⟩:=t (Yl .str m x true)
  simp only[bh,aq]
  rcases Qr9 (m:=m) (x:=x) with ⟨j,d,u⟩ | ⟨j,d⟩
  ·rw[d] at i
   refine ⟨by omega,⟨fun h=>by omega,fun h=>absurd j (h.2 x (aw ..))⟩⟩
  ·rw[d,ae] at i c
   rw[d]
   simp only[aq,az] at i c
   refine ⟨by omega,⟨fun h=> ?_,fun h=> ?_⟩⟩
   ·obtain ⟨o,g⟩:=c.1 (by omega)
    refine ⟨bj.2 ⟨fun s=>g x s ⟨(x,true),by simp,rfl⟩,o⟩,fun y b=> ?_⟩
    rcases aE.1 b with rfl | b
    ·exact j
    ·exact fun ⟨p,a,e⟩=>g y b ⟨p,aH _ a,e⟩
   ·obtain ⟨o,g⟩:=h
    have q:=bj.1 o
    have:=c.2 ⟨q.2,fun y b ⟨p,a,e⟩=>by
     rcases aG.1 a with a | a
     ·exact g y (ax _ b) ⟨p,a,e⟩
     ·rw[aC.1 a] at e
      exact q.1 (by rw[show x=y from e]; exact b)⟩
    omega
theorem QpR (l:List ByteArray):(Qah l).length≤l.length:=by have:=(Qki l []).1; simpa [Qah] using this
theorem Qkh (l:List ByteArray):(Qah l).length=l.length↔l.Nodup:=by
 have:=(Qki l []).2
 simpa [Qah] using this
theorem QmP (a:l[k]? =some x):Yl .str (Qah (l.take k)) x true=Qah (l.take (k+1)):=by
 rw[Qs a]
 simp[Qah]
theorem QjW {n q:Nat}{ms:List DMv}(h:∀j,j < k→∀w,ms[j]? =some w→MvOk n q w)(b:ms[k]? =some v)(hv:MvOk n q v):∀j,j < k+1→∀w,ms[j]? =some w→MvOk n q w:=fun j c w a=>by
 by_cases e:j=k
 ·subst e; rw[b] at a; cases a; exact hv
 ·exact h j (by omega) w a
theorem QnU {n q:Nat}{ms:List DMv}(h:∀j,j < k→∀w,ms[j]? =some w→MvOk n q w)(c:ms.length≤k):∀w∈ms,MvOk n q w:=fun w b=>by
 obtain ⟨j,a⟩:=aO.1 b
 have:=(ah.1 a).1
 exact h j (by omega) w a
theorem Qbx (h:¬ZX r):false=decide (ZX r):=(aQ h).symm
theorem WY (a:r.2[k]? =some v)(h:¬MvOk r.1.length 24 v):false=decide (ZX r):=Qbx fun g=>h (g.2.2.2 v (ai a))
theorem Qc3 (h:¬((1:Int)≤(r.1.length:Int)∧(r.1.length:Int)≤300)):false=decide (ZX r):=Qbx fun g=>h (by have:=g.1; omega)
theorem QjH (h:(4000:Int) < (r.2.length:Int)):false=decide (ZX r):=Qbx fun g=>by have:=g.2.1; omega
theorem Qmq (b:m=Qah (r.1.take k))(a:r.1.length≤k)(h:¬(m.length:Int)=(r.1.length:Int)):false=decide (ZX r):=Qbx fun g=>by
 rw[b,aJ a] at h
 exact h (by rw[(Qkh r.1).2 g.2.2.1])
theorem QrQ (e:(1:Int)≤(r.1.length:Int)∧(r.1.length:Int)≤300)(d:m=Qah (r.1.take k))(c:r.1.length≤k)(h:(m.length:Int)=(r.1.length:Int))(a:∀v∈r.2,MvOk r.1.length 24 v):decide ((r.2.length:Int)≤4000)=decide (ZX r):=by
 rw[d,aJ c] at h
 have b:=(Qkh r.1).1 (by omega)
 refine db.2 ⟨fun i=>⟨by omega,by omega,b,a⟩,fun g=>by have:=g.2.1; omega⟩
theorem QrR (c:(1:Int)≤(r.1.length:Int)∧(r.1.length:Int)≤300)(d:¬(4000:Int) < (r.2.length:Int))(b:r.1.Nodup)(a:∀v∈r.2,MvOk r.1.length 24 v):true=decide (ZX r):=(aY ⟨by omega,by omega,b,a⟩).symm
theorem QjG (b:r.1[k]? =some x)(h:x∈r.1.take k):false=decide (ZX r):=Qbx fun g=>by
 have a:=g.2.2.1
 rw[← bR k r.1,ZA b] at a
 exact (aT.1 a).2.2 x h x (aw ..) rfl
theorem Quw (h:(l.take k).Nodup)(i:l[k]? =some x)(g:x∉l.take k):(l.take (k+1)).Nodup:=by
 rw[Qs i]
 exact aT.2 ⟨h,by simp,fun a c b d e=>g (by rw[← aC.1 d,← e]; exact c)⟩
theorem Quf (h:0≤ZM l x):x∈l:=by
 unfold ZM ZO at h
 cases a:l.findIdx? (fun y=>decide (y=x)) with
 | none=>rw[a] at h; simp at h
 | some i=>
  obtain ⟨b,c,_⟩:=bS.1 a
  have:=ab c
  rw[← this]
  exact dd b
end
def Wy (f:Int→Bool):Nat→List Int
 | 0=>[]
 | k+1=>Wy f k++(if f (k:Int)=true then [] else [(k:Int)])
section
variable {f:Int→Bool}{k n:Nat}{α:Type _}{l:List α}{p:α→Bool}{x:α}
theorem Xm (h:f (k:Int)=true):Wy f k=Wy f (k+1):=by simp[Wy,h]
theorem We (h:f (k:Int)=false):Wy f k++[(k:Int)]=Wy f (k+1):=by simp[Wy,h]
theorem HA (f:Int→Bool)(k:Nat):(Wy f k).length≤k:=by
 induction k with
 | zero=>simp[Wy]
 | succ k a=>simp only[Wy,ae]; split <;> simp <;> omega
theorem Qjk (a:l[k]? =some x):(l.take (k+1)).any p=((l.take k).any p||p x):=by rw[Qs a]; simp
end
def byT (r:DRg)(t:Int):Bool:=r.2.any fun v=>decide (v.2.1=t)
def WM (r:DRg)(t:Int):Bool:=r.2.any fun v=>decide (v.1=t)
def mfV (r:DRg)(k:Int):List DMv×Bool:=if ZX r∧0≤k∧k < r.1.length then (r.2.filter fun v=>decide (v.1=k),true) else ([],false)
def dlV (r:DRg):List Int×Bool:=if ZX r then (Wy (WM r) r.1.length,true) else ([],false)
section
variable [∀s,Decidable (StgOk s)]
def dtV (s:Qy)(r:DRg):List Int×Bool:=if StgOk s∧ZX r then (Wy (byT r) s.2.2.1.length,true) else ([],false)
theorem QdD {s:Qy}{r:DRg}(h:¬StgOk s):dtV s r=([],false):=if_neg fun g=>h g.1
theorem QdE {s:Qy}{r:DRg}(h:¬ZX r):dtV s r=([],false):=if_neg fun g=>h g.2
theorem QdF {s:Qy}{r:DRg}(h:StgOk s)(g:ZX r):dtV s r=(Wy (byT r) s.2.2.1.length,true):=if_pos ⟨h,g⟩
end
theorem QhU {r:DRg}(h:¬ZX r):dlV r=([],false):=if_neg h
theorem QdC {r:DRg}(g:ZX r):dlV r=(Wy (WM r) r.1.length,true):=if_pos g
theorem QnQ {r:DRg}{k:Int}(h:¬ZX r):mfV r k=([],false):=if_neg fun g=>h g.1
theorem QnR {r:DRg}{k:Int}(h:¬(0≤k∧k≤(r.1.length:Int) - 1)):mfV r k=([],false):=if_neg fun g=>h (by have:=g.2; omega)
theorem Qid {r:DRg}{k:Int}(g:ZX r)(h:0≤k∧k≤(r.1.length:Int) - 1):mfV r k=(r.2.filter fun v=>decide (v.1=k),true):=if_pos ⟨g,by omega⟩
theorem QjU {r:DRg}{k:Nat}(g:ZX r)(a:k < r.1.length):WM r (k:Int)= !decide (((mfV r (k:Int)).1.length:Int)=0):=by
 rw[Qid g (by omega)]
 unfold WM
 rw[cF]
 simp[bW,List.length_eq_zero_iff]
theorem Qx1 {r:DRg}{k:Nat}(g:ZX r)(a:k < r.1.length)(h:decide (((mfV r (k:Int)).1.length:Int)=0)=false):WM r (k:Int)=true:=by rw[QjU g a,h]; rfl
theorem Qx0 {r:DRg}{k:Nat}(g:ZX r)(a:k < r.1.length)(h:decide (((mfV r (k:Int)).1.length:Int)=0)=true):WM r (k:Int)=false:=by rw[QjU g a,h]; rfl
def Qc1 (k:Int)(ms:List DMv):List DMv:=ms.filter fun v=>decide (v.1=k)
theorem Qpn {k:Int}{ms:List DMv}{n:Nat}(i:Nat)(h:ms.length≤n):(Qc1 k (ms.take i)).length≤n:=bn (cP ..) (bn (by rw[ao]; exact Nat.min_le_right _ _) h)
theorem QjA {ms:List DMv}{i:Nat}{v:DMv}{k:Int}(a:ms[i]? =some v)(h:decide (v.1=k)=true):Qc1 k (ms.take i)++[v]=Qc1 k (ms.take (i+1)):=by
 unfold Qc1
 rw[Qs a,bO]; simp[h]
theorem QnC {ms:List DMv}{i:Nat}{v:DMv}{k:Int}(a:ms[i]? =some v)(h:decide (v.1=k)=false):Qc1 k (ms.take i)=Qc1 k (ms.take (i+1)):=by
 unfold Qc1
 rw[Qs a,bO]; simp[h]
theorem Jp (r:Qev):FC Tryz.prog 393 [(true,[.dat Qu r.1, .dat Y5 r.2])] [] 0 (Za (lB (decide (ZX r)))):=by
 refine Qn Tryz.func393 rfl rfl Tryz.ntmps393 fun U A T M V O N=> ?_
 refine w_ ?_
 refine xbx 0 ?_
 refine w5 ?_
 refine alL 10 fun _=> ?_
 refine w8 ?_
 refine alL 14 fun _=> ?_
 refine w4 ?_
 refine lpK r.2.length (fun k=>∀j,j < k→∀w,r.2[j]? =some w→MvOk r.1.length 24 w) (fun k=>⟨[(1,lP 0 0),(3,lI ((r.1.length:Int) - 1)),(14,lf (.dat Y5 r.2)),(15,lI (r.2.length:Int)),(16,lI (k:Int))],[bx 0 178 [.dat Qu r.1, .dat Y5 r.2]]⟩) ((fun j P=>absurd P (bi j))) ?_ fun k _ J=> ?_
 exact wo []
 refine w4 ?_
 cases C:(decide ((k:Int) < (r.2.length:Int)))
 have D:=aa C
 refine w4 ?_
 refine lc (VH (kt:=9) (et:=4) (kb:=false) (k:= .str) (vb:=false) (v:= .bool) 1 rfl (Fresh.of rfl) (nlr rfl)) ?_
 refine w6 ?_
 refine alL 41 fun _=> ?_
 refine w4 ?_
 refine QH (fun K L=>∃(i:Nat) (B:List (ByteArray×Bool)),i≤r.1.length∧K=r.1.length - i∧(B=Qah (r.1.take i))∧L=⟨[(1,lP 0 0),(6,lR 2),(41,lf (.dat Qu r.1)),(42,lI (r.1.length:Int)),(43,lI (i:Int))],[bx 0 178 [.dat Qu r.1, .dat Y5 r.2],(2,some (.mp false .str false .bool B))]⟩) ⟨0,[],aP _,rfl,rfl,rfl⟩ ?_ ?_
 exact wp [(2,1)] ⟨rfl,(Qk3 (by first | rfl | simp)),trivial⟩
 rintro K L ⟨i,B,Q,R,I,rfl⟩
 refine w4 ?_
 cases E:(decide ((i:Int) < (r.1.length:Int)))
 have F:=aa E
 refine w3 ?_
 refine Yg ?_
 have S:B.length≤r.1.length:=by rw[I]; exact bn (QpR _) (by rw[ao]; exact Nat.min_le_right _ _)
 refine w3 ?_
 refine alL 51 fun _=> ?_
 refine w_ ?_
 refine lc (dK (QP (r.1.length:Int) 1 300) Zf) ?_
 refine w_ ?_
 cases c:(decide (1≤(r.1.length:Int)∧(r.1.length:Int)≤300))
 have o:=aa c
 refine w15 ?_
 refine Qe<|fqB A ?_
 exact Qc3 ‹_›
 have o:=ab c
 refine w_ ?_
 refine lgy rfl rfl (QoN (Qa rfl) rfl QoF (by omega) rfl) ?_
 refine w2 ?_
 refine alL 58 fun _=> ?_
 refine w4 ?_
 cases d:(decide ((B.length:Int)=(r.1.length:Int)))
 have q:=aa d
 refine w7 ?_
 refine Qe<|fqB A ?_
 exact Qmq I (by omega) ‹_›
 have q:=ab d
 refine w2 ?_
 refine alL 64 fun _=> ?_
 refine w5 ?_
 refine Qe<|fqB A ?_
 exact QrQ ‹_› I (by omega) ‹_› (QnU J (by omega))
 have F:=ab E
 refine w5 ?_
 obtain ⟨H,G⟩:=gx r.1 i
 refine w7 ?_
 refine lc (V7 Qc4 QoF (Qa rfl) rfl (Ql rfl) (p:=H) rfl (Evl.ev Zt) (u:=true) rfl)<|Qf ?_
 refine w4 ?_
 refine Qf<|ZF ⟨i+1,(Yl .str B H true),by omega,rfl,(by rw[I]; exact QmP G),rfl⟩ (by omega) ?_
 exact wp [] ⟨rfl,(Qk3 (by first | rfl | simp)),trivial⟩
 have D:=ab C
 refine w5 ?_
 obtain ⟨a,b⟩:=gx r.2 k
 refine w2 ?_
 refine lc (xal 3 Zx YX) ?_
 refine w5 ?_
 refine alI 21 fun _=> ?_
 refine w_ ?_
 refine lc (dK (QP a.1 0 ((r.1.length:Int) - 1)) Zf) ?_
 refine w2 ?_
 cases e:(decide (0≤a.1∧a.1≤((r.1.length:Int) - 1)))
 have s:=aa e
 refine w16 ?_
 refine w_ ?_
 refine Qe<|fqB A ?_
 exact WY b (by unfold MvOk; omega)
 have s:=ab e
 refine w3 ?_
 refine lgy rfl rfl (dK (QP a.2.2 0 ((r.1.length:Int) - 1)) Zf) ?_
 refine w3 ?_
 cases g:(decide (0≤a.2.2∧a.2.2≤((r.1.length:Int) - 1)))
 have t:=aa g
 refine w10 ?_
 refine Qe<|fqB A ?_
 exact WY b (by unfold MvOk; omega)
 have t:=ab g
 refine w2 ?_
 refine lgy rfl rfl (dK (QP a.2.1 0 23) Zf) ?_
 refine w3 ?_
 cases h:(decide (0≤a.2.1∧a.2.1≤23))
 have z:=aa h
 refine w4 ?_
 refine Qe<|fqB A ?_
 exact WY b (by unfold MvOk; omega)
 have z:=ab h
 refine w6 ?_
 refine Qf ?_
 refine lK_ ((QjW J b (by unfold MvOk; omega))) ?_
 exact wo []
theorem Ul (r:Qev):FC Tryz.prog 397 [(true,[.dat Qu r.1, .dat Y5 r.2])] [] 0 (Za (lB (decide (ZX r)))):=by
 refine Qn Tryz.func397 rfl rfl Tryz.ntmps397 fun P s O J Q L K=> ?_
 refine w_ ?_
 refine xbx 0 ?_
 refine w6 ?_
 refine alL 8 fun _=> ?_
 refine w_ ?_
 refine lc (dK (Zo (r.1.length:Int) 1 300) ZV) ?_
 refine w2 ?_
 cases C:(decide (1≤(r.1.length:Int)∧(r.1.length:Int)≤300))
 have D:=aa C
 refine w10 ?_
 refine Qe<|fqB s ?_
 exact Qc3 ‹_›
 have D:=ab C
 refine w2 ?_
 refine alL 14 fun _=> ?_
 refine w4 ?_
 refine cd_ (fun _ _=> ?_) fun _ _=> ?_
 refine w5 ?_
 refine alL 19 fun _=> ?_
 refine w4 ?_
 refine lpK r.1.length (fun i=>(r.1.take i).Nodup) (fun i=>⟨[(1,lP 0 0),(19,lf (.dat Qu r.1)),(20,lI (r.1.length:Int)),(21,lI (i:Int))],[bx 0 178 [.dat Qu r.1, .dat Y5 r.2]]⟩) (bL) ?_ fun i _ H=> ?_
 exact wo []
 refine w4 ?_
 cases E:(decide ((i:Int) < (r.1.length:Int)))
 have F:=aa E
 refine w7 ?_
 refine alL 35 fun _=> ?_
 refine w4 ?_
 refine lpK r.2.length (fun k=>∀j,j < k→∀w,r.2[j]? =some w→MvOk r.1.length 24 w) (fun k=>⟨[(1,lP 0 0),(35,lf (.dat Y5 r.2)),(36,lI (r.2.length:Int)),(37,lI (k:Int))],[bx 0 178 [.dat Qu r.1, .dat Y5 r.2]]⟩) ((fun j M=>absurd M (bi j))) ?_ fun k _ I=> ?_
 exact wo []
 refine w4 ?_
 cases c:(decide ((k:Int) < (r.2.length:Int)))
 have t:=aa c
 refine w6 ?_
 refine Qe<|fqB s ?_
 exact QrR ‹_› ‹_› (by rw[Q8 (by omega)] at H; exact H) (QnU I (by omega))
 have t:=ab c
 refine w5 ?_
 obtain ⟨a,b⟩:=gx r.2 k
 refine w2 ?_
 refine lc (xal 1 Zx YX) ?_
 refine w5 ?_
 refine alI 42 fun _=> ?_
 refine w2 ?_
 refine alL 44 fun _=> ?_
 refine w2 ?_
 refine lc (dK (Zo a.1 0 ((r.1.length:Int) - 1)) ZV) ?_
 refine w2 ?_
 cases d:(decide (0≤a.1∧a.1≤((r.1.length:Int) - 1)))
 have u:=aa d
 refine w16 ?_
 refine w4 ?_
 refine Qe<|fqB s ?_
 exact WY b (by unfold MvOk; omega)
 have u:=ab d
 refine w4 ?_
 refine alL 53 fun _=> ?_
 refine w2 ?_
 refine lgy rfl rfl (dK (Zo a.2.2 0 ((r.1.length:Int) - 1)) ZV) ?_
 refine w3 ?_
 cases e:(decide (0≤a.2.2∧a.2.2≤((r.1.length:Int) - 1)))
 have z:=aa e
 refine w10 ?_
 refine Qe<|fqB s ?_
 exact WY b (by unfold MvOk; omega)
 have z:=ab e
 refine w2 ?_
 refine lgy rfl rfl (dK (Zo a.2.1 0 23) ZV) ?_
 refine w3 ?_
 cases g:(decide (0≤a.2.1∧a.2.1≤23))
 have A:=aa g
 refine w4 ?_
 refine Qe<|fqB s ?_
 exact WY b (by unfold MvOk; omega)
 have A:=ab g
 refine w6 ?_
 refine Qf ?_
 refine lK_ ((QjW I b (by unfold MvOk; omega))) ?_
 exact wo []
 have F:=ab E
 refine w6 ?_
 obtain ⟨G,q⟩:=gx r.1 i
 refine w9 ?_
 refine lc (Yr (l:=none) (h:=(some (i:Int))) (Qa rfl) (by exact trivial) (by exact (Qa rfl)) XQ Xw rfl (by simp only[ak,aj]; omega) (by simp only[ak,aj]; omega) (by simp only[ak,aj]; omega)) ?_
 refine w_ ?_
 refine lc (dK (J2 ((r.1.take ((i:Int)).toNat).drop 0) G) QeR) ?_
 refine w2 ?_
 cases o:(decide (0≤(ZM ((r.1.take ((i:Int)).toNat).drop 0) G)))
 have B:=aa o
 refine w6 ?_
 refine Qf ?_
 refine lK_ ((Quw H q (fun N=>by have:=QgY (l:=r.1.take i) ‹_›; exact this N))) ?_
 exact wo []
 have B:=ab o
 refine w4 ?_
 refine Qe<|fqB s ?_
 exact QjG q (Quf (l:=r.1.take i) ‹_›)
 refine w3 ?_
 refine Qe<|fqB s ?_
 exact QjH ‹_›
theorem Ux (m:Int×Int×Int)(t:Int):FC Tryz.prog 395 [(true,[dI m.1,dI m.2.1,dI m.2.2]),(false,[.ptr 0 0])] [bx 0 3 [dI t]] 1 (Is (lB (decide (m.2.1=t))) [bx 0 3 [dI t]]):=by
 refine Qn Tryz.func395 rfl rfl Tryz.ntmps395 fun g d e a h c b=> ?_
 refine acG 0 0 fun _=> ?_
 refine acG 0 1 fun _=> ?_
 refine acG 0 2 fun _=> ?_
 refine w_ ?_
 refine xbx 1 ?_
 refine w6 ?_
 refine alI 6 fun _=> ?_
 refine w4 ?_
 exact fi_ [] d ⟨rfl,trivial⟩
theorem JR (s:Qt4)(t:Int):FC Tryz.prog 489 [(false,[.dat Y5 s]),(false,[.clo 395 [0]])] [bx 0 3 [dI t]] 1 (Is (lI (ZO (fun v:DMv=>decide (v.2.1=t)) s)) [bx 0 3 [dI t]]):=by
 refine Qn Tryz.func489 rfl rfl Tryz.ntmps489 fun A i z j B w u=> ?_
 refine w6 ?_
 refine alL 6 fun _=> ?_
 refine w4 ?_
 refine lpK s.length (fun k=>NoneTo (fun v:DMv=>decide (v.2.1=t)) s k) (fun k=>⟨[(0,lf (.dat Y5 s)),(1,lf (.clo 395 [0])),(7,lI (s.length:Int)),(8,lI (k:Int))],[bx 0 3 [dI t]]⟩) (NoneTo.zero) ?_ fun k _ a=> ?_
 exact wo []
 refine w4 ?_
 cases b:(decide ((k:Int) < (s.length:Int)))
 have c:=aa b
 refine w7 ?_
 have o:((-1):Int)=(ZO (fun v:DMv=>decide (v.2.1=t)) s):=by
  first | exact (a.no (by omega)).symm
 exact fi_ [] i ⟨rfl,trivial⟩ (h0:=by rw[← o] <;> rfl)
 have c:=ab b
 refine w12 ?_
 obtain ⟨h,g⟩:=gx s k
 refine w2 ?_
 refine lc (V6 (args0:=[(true,[dI h.1,dI h.2.1,dI h.2.2])]) (caps:=[0]) 1 [(0,0)] (Ux h t) Qmb rfl (Qa rfl) rfl rfl ⟨_,_,rfl,(Ql rfl),rfl⟩ ⟨rfl,trivial⟩ rfl ⟨trivial,trivial⟩ (nlr rfl)) ?_
 refine w_ ?_
 cases d:(decide (h.2.1=t))
 have e:=aa d
 refine w6 ?_
 refine Qf ?_
 refine lK_ (a.step g ‹_›) ?_
 exact wo []
 have e:=ab d
 refine w6 ?_
 have q:((k:Int):Int)=(ZO (fun v:DMv=>decide (v.2.1=t)) s):=by
  exact (a.at g ‹_›).symm
 exact fi_ [] i ⟨rfl,trivial⟩ (h0:=by rw[q] <;> rfl)
theorem Kf (s:Qt4)(t:Int):FC Tryz.prog 394 [(false,[.dat Y5 s]),(false,[.clo 395 [0]])] [bx 0 3 [dI t]] 1 (Is (lB (s.any (fun v:DMv=>decide (v.2.1=t)))) [bx 0 3 [dI t]]):=by
 refine Qn Tryz.func394 rfl rfl Tryz.ntmps394 fun h e g a i d c=> ?_
 refine w6 ?_
 refine lc (dP 1 [] (JR s t) QeY) ?_
 refine w4 ?_
 have b:(decide (0≤(ZO (fun v:DMv=>decide (v.2.1=t)) s)):Bool)=(s.any (fun v:DMv=>decide (v.2.1=t))):=by
  exact Vk _ _
 exact fi_ [] e ⟨rfl,trivial⟩ (h0:=by rw[b] <;> rfl)
theorem H2 (m:Int×Int×Int)(q:Int):FC Tryz.prog 396 [(true,[dI m.1,dI m.2.1,dI m.2.2]),(false,[.ptr 0 0])] [bx 0 3 [dI q]] 1 (Is (lB (decide (m.1=q))) [bx 0 3 [dI q]]):=by
 refine Qn Tryz.func396 rfl rfl Tryz.ntmps396 fun g d e a h c b=> ?_
 refine acG 0 0 fun _=> ?_
 refine acG 0 1 fun _=> ?_
 refine acG 0 2 fun _=> ?_
 refine w_ ?_
 refine xbx 1 ?_
 refine w6 ?_
 refine alI 6 fun _=> ?_
 refine w4 ?_
 exact fi_ [] d ⟨rfl,trivial⟩
theorem K1 (s:Qt4)(q:Int):FC Tryz.prog 489 [(false,[.dat Y5 s]),(false,[.clo 396 [0]])] [bx 0 3 [dI q]] 1 (Is (lI (ZO (fun v:DMv=>decide (v.1=q)) s)) [bx 0 3 [dI q]]):=by
 refine Qn Tryz.func489 rfl rfl Tryz.ntmps489 fun A i z j B w u=> ?_
 refine w6 ?_
 refine alL 6 fun _=> ?_
 refine w4 ?_
 refine lpK s.length (fun k=>NoneTo (fun v:DMv=>decide (v.1=q)) s k) (fun k=>⟨[(0,lf (.dat Y5 s)),(1,lf (.clo 396 [0])),(7,lI (s.length:Int)),(8,lI (k:Int))],[bx 0 3 [dI q]]⟩) (NoneTo.zero) ?_ fun k _ a=> ?_
 exact wo []
 refine w4 ?_
 cases b:(decide ((k:Int) < (s.length:Int)))
 have c:=aa b
 refine w7 ?_
 have o:((-1):Int)=(ZO (fun v:DMv=>decide (v.1=q)) s):=by
  first | exact (a.no (by omega)).symm
 exact fi_ [] i ⟨rfl,trivial⟩ (h0:=by rw[← o] <;> rfl)
 have c:=ab b
 refine w12 ?_
 obtain ⟨h,g⟩:=gx s k
 refine w2 ?_
 refine lc (V6 (args0:=[(true,[dI h.1,dI h.2.1,dI h.2.2])]) (caps:=[0]) 1 [(0,0)] (H2 h q) Qmc rfl (Qa rfl) rfl rfl ⟨_,_,rfl,(Ql rfl),rfl⟩ ⟨rfl,trivial⟩ rfl ⟨trivial,trivial⟩ (nlr rfl)) ?_
 refine w_ ?_
 cases d:(decide (h.1=q))
 have e:=aa d
 refine w6 ?_
 refine Qf ?_
 refine lK_ (a.step g ‹_›) ?_
 exact wo []
 have e:=ab d
 refine w6 ?_
 have t:((k:Int):Int)=(ZO (fun v:DMv=>decide (v.1=q)) s):=by
  exact (a.at g ‹_›).symm
 exact fi_ [] i ⟨rfl,trivial⟩ (h0:=by rw[t] <;> rfl)
theorem Uu (s:Qt4)(q:Int):FC Tryz.prog 394 [(false,[.dat Y5 s]),(false,[.clo 396 [0]])] [bx 0 3 [dI q]] 1 (Is (lB (s.any (fun v:DMv=>decide (v.1=q)))) [bx 0 3 [dI q]]):=by
 refine Qn Tryz.func394 rfl rfl Tryz.ntmps394 fun h e g a i d c=> ?_
 refine w6 ?_
 refine lc (dP 1 [] (K1 s q) QeY) ?_
 refine w4 ?_
 have b:(decide (0≤(ZO (fun v:DMv=>decide (v.1=q)) s)):Bool)=(s.any (fun v:DMv=>decide (v.1=q))):=by
  exact Vk _ _
 exact fi_ [] e ⟨rfl,trivial⟩ (h0:=by rw[b] <;> rfl)
theorem Kg (s:YA)(r:Qev)[∀s,Decidable (StgOk s)]:FC Tryz.prog 277 [(true,[dI s.1.1, .dat QF s.1.2, .dat Qo s.2.1, .dat Qw s.2.2.1,dS s.2.2.2]),(true,[.dat Qu r.1, .dat Y5 r.2])] [] 0 (Is (PV.tup [(false,[.ref 0]),(false,[dB ((dtV s r).2)])]) [ar 0 3 .int ((dtV s r).1)]):=by
 refine Qn Tryz.func277 rfl rfl Tryz.ntmps277 fun D i C o E z w=> ?_
 refine acG 0 0 fun _=> ?_
 refine w_ ?_
 refine xbx 0 ?_
 refine xbx 1 ?_
 refine w6 ?_
 refine lc (dK (YU s) KW) ?_
 refine w2 ?_
 cases a:(decide (StgOk s))
 have b:=aa a
 refine w10 ?_
 refine AC.wk (Wk.nilS 2 4 3 .int rfl (Fresh.of rfl) (nlr rfl))<|Qe ?_
 have q:(false:Bool)=((dtV s r).2):=by
  (rw[QdD ‹_›]; done)
 exact fi_ [(0,2)] i ⟨(Qh (by (rw[QdD ‹_›]; done))),trivial⟩ (h0:=by rw[← q] <;> rfl)
 have b:=ab a
 refine w_ ?_
 refine lgy rfl rfl (dK (Jp r) QeT) ?_
 refine w3 ?_
 cases c:(decide (ZX r))
 have d:=aa c
 refine w5 ?_
 refine AC.wk (Wk.nilS 3 4 3 .int rfl (Fresh.of rfl) (nlr rfl))<|Qe ?_
 have t:(false:Bool)=((dtV s r).2):=by
  (rw[QdE ‹_›]; done)
 exact fi_ [(0,3)] i ⟨(Qh (by (rw[QdE ‹_›]; done))),trivial⟩ (h0:=by rw[← t] <;> rfl)
 have d:=ab c
 refine w3 ?_
 refine lc (dBs 4 (e:= .int) Zq) ?_
 refine w6 ?_
 refine alL 18 fun _=> ?_
 refine w4 ?_
 refine lp0 s.2.2.1.length (fun k=>⟨[(3,lP 1 0),(4,lf (.val (.slice none 0 0))),(5,lB false),(6,lR 5),(19,lI (s.2.2.1.length:Int)),(20,lI (k:Int))],[bx 1 178 [.dat Qu r.1, .dat Y5 r.2],ar 5 3 .int (Wy (byT r) k)]⟩) ?_ fun k _=> ?_
 exact wp [(5,4)] ⟨rfl,(Qh (by first | rfl | simp)),trivial⟩
 have A:=HA (byT r) k
 have B:s.2.2.1.length≤24:=by rw[‹StgOk s›.len]; exact ‹StgOk s›.net.2.1
 refine w4 ?_
 cases g:(decide ((k:Int) < (s.2.2.1.length:Int)))
 have h:=aa g
 refine w9 ?_
 have u:(true:Bool)=((dtV s r).2):=by
  (rw[QdF ‹_› ‹_›]; done)
 exact fi_ [(0,5)] i ⟨(Qh (by (rw[QdF ‹_› ‹_›,show k=s.2.2.1.length by omega]; done))),trivial⟩ (h0:=by rw[← u] <;> rfl)
 have h:=ab g
 refine w6 ?_
 refine lc (xal 6 .int Zq) ?_
 refine w5 ?_
 refine lc (XR ⟨_,_,rfl,(Qa rfl),rfl,rfl⟩ rfl) ?_
 refine lc (dP 7 [(0,6)] (Kf r.2 (k:Int)) QeU) ?_
 refine w2 ?_
 cases j:(r.2.any (fun v:DMv=>decide (v.2.1=(k:Int))))
 refine w4 ?_
 refine lc (dBs 8 (e:= .int) Zq) ?_
 refine lc (dA 9 YO) ?_
 refine w_ ?_
 refine Qf ?_
 refine w4 ?_
 refine Qf ?_
 refine l0_ ?_
 exact wp [(5,9)] ⟨rfl,(Qh (by first | exact Xm (f:=byT r) ‹_› | exact We (f:=byT r) ‹_›)),trivial⟩
 refine w6 ?_
 refine Qf ?_
 refine l0_ ?_
 exact wp [] ⟨rfl,(Qh (by first | exact Xm (f:=byT r) ‹_› | exact We (f:=byT r) ‹_›)),trivial⟩
theorem Qbh (r:Qev):FC Tryz.prog 278 [(true,[.dat Qu r.1, .dat Y5 r.2])] [] 0 (Is (PV.tup [(false,[.ref 0]),(false,[dB ((dlV r).2)])]) [ar 0 3 .int ((dlV r).1)]):=by
 refine Qn Tryz.func278 rfl rfl Tryz.ntmps278 fun z g w h A q o=> ?_
 refine w_ ?_
 refine xbx 0 ?_
 refine w6 ?_
 refine lc (dK (Jp r) QeT) ?_
 refine w2 ?_
 cases a:(decide (ZX r))
 have b:=aa a
 refine w5 ?_
 refine AC.wk (Wk.nilS 1 2 3 .int rfl (Fresh.of rfl) (nlr rfl))<|Qe ?_
 have i:(false:Bool)=((dlV r).2):=by
  (rw[QhU ‹_›]; done)
 exact fi_ [(0,1)] g ⟨(Qh (by (rw[QhU ‹_›]; done))),trivial⟩ (h0:=by rw[← i] <;> rfl)
 have b:=ab a
 refine w3 ?_
 refine lc (dBs 2 (e:= .int) Zq) ?_
 refine w6 ?_
 refine alL 11 fun _=> ?_
 refine w4 ?_
 refine lp0 r.1.length (fun k=>⟨[(1,lP 0 0),(2,lf (.val (.slice none 0 0))),(3,lB false),(4,lR 3),(12,lI (r.1.length:Int)),(13,lI (k:Int))],[bx 0 178 [.dat Qu r.1, .dat Y5 r.2],ar 3 3 .int (Wy (WM r) k)]⟩) ?_ fun k _=> ?_
 exact wp [(3,2)] ⟨rfl,(Qh (by first | rfl | simp)),trivial⟩
 have t:=HA (WM r) k
 have u:=‹ZX r›.1.2
 refine w4 ?_
 cases c:(decide ((k:Int) < (r.1.length:Int)))
 have d:=aa c
 refine w9 ?_
 have j:(true:Bool)=((dlV r).2):=by
  (rw[QdC ‹_›]; done)
 exact fi_ [(0,3)] g ⟨(Qh (by (rw[QdC ‹_›,show k=r.1.length by omega]; done))),trivial⟩ (h0:=by rw[← j] <;> rfl)
 have d:=ab c
 refine w6 ?_
 refine lc (xal 4 .int Zq) ?_
 refine w5 ?_
 refine lc (XR ⟨_,_,rfl,(Qa rfl),rfl,rfl⟩ rfl) ?_
 refine lc (dP 5 [(0,4)] (Uu r.2 (k:Int)) QeU) ?_
 refine w2 ?_
 cases s:(r.2.any (fun v:DMv=>decide (v.1=(k:Int))))
 refine w4 ?_
 refine lc (dBs 6 (e:= .int) Zq) ?_
 refine lc (dA 7 YO) ?_
 refine w_ ?_
 refine Qf ?_
 refine w4 ?_
 refine Qf ?_
 refine l0_ ?_
 exact wp [(3,7)] ⟨rfl,(Qh (by first | exact Xm (f:=WM r) ‹_› | exact We (f:=WM r) ‹_›)),trivial⟩
 refine w6 ?_
 refine Qf ?_
 refine l0_ ?_
 exact wp [] ⟨rfl,(Qh (by first | exact Xm (f:=WM r) ‹_› | exact We (f:=WM r) ‹_›)),trivial⟩
theorem Qbm (r:Qev)(k:Int):FC Tryz.prog 398 [(true,[.dat Qu r.1, .dat Y5 r.2]),(false,[dI k])] [] 0 (Is (PV.tup [(false,[.ref 0]),(false,[dB ((mfV r k).2)])]) [ar 0 301 Zx ((mfV r k).1)]):=by
 refine Qn Tryz.func398 rfl rfl Tryz.ntmps398 fun F u E w G C B=> ?_
 refine acI 1 fun _=> ?_
 refine w_ ?_
 refine xbx 0 ?_
 refine w6 ?_
 refine lc (dK (Ul r) QaF) ?_
 refine w2 ?_
 cases g:(decide (ZX r))
 have h:=aa g
 refine w14 ?_
 refine AC.wk (Wk.nilS 1 4 301 Zx rfl (Fresh.of rfl) (nlr rfl))<|Qe ?_
 have z:(false:Bool)=((mfV r k).2):=by
  (rw[QnQ ‹_›]; done)
 exact fi_ [(0,1)] u ⟨(Qh (by (rw[QnQ ‹_›]; done))),trivial⟩ (h0:=by rw[← z] <;> rfl)
 have h:=ab g
 refine w3 ?_
 refine alL 15 fun _=> ?_
 refine w2 ?_
 refine lgy rfl rfl (dK (Zo k 0 ((r.1.length:Int) - 1)) ZV) ?_
 refine w3 ?_
 cases j:(decide (0≤k∧k≤((r.1.length:Int) - 1)))
 have o:=aa j
 refine w5 ?_
 refine AC.wk (Wk.nilS 2 4 301 Zx rfl (Fresh.of rfl) (nlr rfl))<|Qe ?_
 have A:(false:Bool)=((mfV r k).2):=by
  (rw[QnR ‹_›]; done)
 exact fi_ [(0,2)] u ⟨(Qh (by (rw[QnR ‹_›]; done))),trivial⟩ (h0:=by rw[← A] <;> rfl)
 have o:=ab j
 refine w9 ?_
 refine alL 22 fun _=> ?_
 refine w4 ?_
 refine AC.wk (Wk.nilS 3 6 301 Zx rfl (Fresh.of rfl) (nlr rfl)) ?_
 refine lp0 r.2.length (fun i=>⟨[(1,lI k),(4,lf (.val (.slice none 0 0))),(5,lB false),(6,lR 4),(22,lf (.dat Y5 r.2)),(23,lI (r.2.length:Int)),(24,lI (i:Int))],[ar 4 301 Zx (Qc1 k (r.2.take i))]⟩) ?_ fun i _=> ?_
 exact wp [(4,3)] ⟨(Qh (by first | rfl | simp)),trivial⟩
 have D:=Qpn (k:=k) i ‹ZX r›.2.1
 refine w4 ?_
 cases q:(decide ((i:Int) < (r.2.length:Int)))
 have s:=aa q
 refine w9 ?_
 have t:(true:Bool)=((mfV r k).2):=by
  (rw[Qid ‹_› ‹_›]; done)
 exact fi_ [(0,4)] u ⟨(Qh (by (rw[Qid ‹_› ‹_›,Q8 (by omega)]; rfl))),trivial⟩ (h0:=by rw[← t] <;> rfl)
 have s:=ab q
 refine w5 ?_
 obtain ⟨b,a⟩:=gx r.2 i
 refine w2 ?_
 refine lc (xal 5 Zx YX) ?_
 refine w5 ?_
 refine alI 29 fun _=> ?_
 refine w3 ?_
 cases c:(decide (b.1=k))
 have d:=aa c
 refine w6 ?_
 refine Qf ?_
 refine l0_ ?_
 exact wp [] ⟨(Qh (by first | exact QjA a ‹_› | exact QnC a ‹_›)),trivial⟩
 have d:=ab c
 refine w4 ?_
 refine lc (dBs 6 (e:=Zx) YX (hab:=by exact ⟨_,_,_,_,rfl,⟨[dI b.1],[dI b.2.1,dI b.2.2],_,_,_,_,rfl,rfl,⟨rfl,rfl⟩,⟨[dI b.2.1],[dI b.2.2],_,_,_,_,rfl,rfl,⟨rfl,rfl⟩,⟨rfl,rfl⟩,rfl⟩,rfl⟩,⟨rfl,rfl⟩,rfl⟩)) ?_
 refine lc (dA 7 Hw) ?_
 refine w_ ?_
 refine Qf ?_
 refine w4 ?_
 refine Qf ?_
 refine l0_ ?_
 exact wp [(4,7)] ⟨(Qh (by first | exact QjA a ‹_› | exact QnC a ‹_›)),trivial⟩
theorem Qbl (r:Qev):FC Tryz.prog 280 [(true,[.dat Qu r.1, .dat Y5 r.2])] [] 0 (Is (PV.tup [(false,[.ref 0]),(false,[dB ((dlV r).2)])]) [ar 0 3 .int ((dlV r).1)]):=by
 refine Qn Tryz.func280 rfl rfl Tryz.ntmps280 fun A i z j B t s=> ?_
 refine w_ ?_
 refine xbx 0 ?_
 refine w6 ?_
 refine lc (dK (Ul r) QaF) ?_
 refine w2 ?_
 cases a:(decide (ZX r))
 have b:=aa a
 refine w5 ?_
 refine AC.wk (Wk.nilS 1 2 3 .int rfl (Fresh.of rfl) (nlr rfl))<|Qe ?_
 have o:(false:Bool)=((dlV r).2):=by
  (rw[QhU ‹_›]; done)
 exact fi_ [(0,1)] i ⟨(Qh (by (rw[QhU ‹_›]; done))),trivial⟩ (h0:=by rw[← o] <;> rfl)
 have b:=ab a
 refine w9 ?_
 refine alL 12 fun _=> ?_
 refine w4 ?_
 refine AC.wk (Wk.nilS 2 4 3 .int rfl (Fresh.of rfl) (nlr rfl)) ?_
 refine lp0 r.1.length (fun k=>⟨[(1,lP 0 0),(2,lf (.val (.slice none 0 0))),(3,lB false),(4,lR 3),(13,lI (r.1.length:Int)),(14,lI (k:Int))],[bx 0 178 [.dat Qu r.1, .dat Y5 r.2],ar 3 3 .int (Wy (WM r) k)]⟩) ?_ fun k _=> ?_
 exact wp [(3,2)] ⟨rfl,(Qh (by first | rfl | simp)),trivial⟩
 have u:=HA (WM r) k
 have w:=‹ZX r›.1.2
 refine w4 ?_
 cases c:(decide ((k:Int) < (r.1.length:Int)))
 have d:=aa c
 refine w9 ?_
 have q:(true:Bool)=((dlV r).2):=by
  (rw[QdC ‹_›]; done)
 exact fi_ [(0,3)] i ⟨(Qh (by (rw[QdC ‹_›,show k=r.1.length by omega]; done))),trivial⟩ (h0:=by rw[← q] <;> rfl)
 have d:=ab c
 refine w11 ?_
 refine lc (dK (Qbm r (k:Int)).frozenG Qmd) ?_
 refine w8 ?_
 refine alL 23 fun _=> ?_
 refine w3 ?_
 cases g:(decide ((((mfV r (k:Int)).1).length:Int)=0))
 have h:=aa g
 refine w6 ?_
 refine Qf ?_
 refine l0_ ?_
 exact wp [] ⟨rfl,(Qh (by first | exact Xm (f:=WM r) (Qx1 ‹ZX r› (by omega) ‹_›) | exact We (f:=WM r) (Qx0 ‹ZX r› (by omega) ‹_›))),trivial⟩
 have h:=ab g
 refine w4 ?_
 refine lc (dBs 4 (e:= .int) Zq) ?_
 refine lc (dA 5 YO) ?_
 refine w_ ?_
 refine Qf ?_
 refine w4 ?_
 refine Qf ?_
 refine l0_ ?_
 exact wp [(3,5)] ⟨rfl,(Qh (by first | exact Xm (f:=WM r) (Qx1 ‹ZX r› (by omega) ‹_›) | exact We (f:=WM r) (Qx0 ‹ZX r› (by omega) ‹_›))),trivial⟩
theorem Kj (s:YA)(r:Qev)[∀s,Decidable (StgOk s)]:FC Tryz.prog 279 [(true,[dI s.1.1, .dat QF s.1.2, .dat Qo s.2.1, .dat Qw s.2.2.1,dS s.2.2.2]),(true,[.dat Qu r.1, .dat Y5 r.2])] [] 0 (Is (PV.tup [(false,[.ref 0]),(false,[dB ((dtV s r).2)])]) [ar 0 3 .int ((dtV s r).1)]):=by
 refine Qn Tryz.func279 rfl rfl Tryz.ntmps279 fun P w O G Q L K=> ?_
 refine acG 0 0 fun _=> ?_
 refine w_ ?_
 refine xbx 0 ?_
 refine xbx 1 ?_
 refine w6 ?_
 refine lc (dK (Z0 s) Xl) ?_
 refine w2 ?_
 cases h:(decide (StgOk s))
 have j:=aa h
 refine w10 ?_
 refine AC.wk (Wk.nilS 2 4 3 .int rfl (Fresh.of rfl) (nlr rfl))<|Qe ?_
 have H:(false:Bool)=((dtV s r).2):=by
  (rw[QdD ‹_›]; done)
 exact fi_ [(0,2)] w ⟨(Qh (by (rw[QdD ‹_›]; done))),trivial⟩ (h0:=by rw[← H] <;> rfl)
 have j:=ab h
 refine w_ ?_
 refine lgy rfl rfl (dK (Ul r) QaF) ?_
 refine w3 ?_
 cases o:(decide (ZX r))
 have q:=aa o
 refine w5 ?_
 refine AC.wk (Wk.nilS 3 4 3 .int rfl (Fresh.of rfl) (nlr rfl))<|Qe ?_
 have I:(false:Bool)=((dtV s r).2):=by
  (rw[QdE ‹_›]; done)
 exact fi_ [(0,3)] w ⟨(Qh (by (rw[QdE ‹_›]; done))),trivial⟩ (h0:=by rw[← I] <;> rfl)
 have q:=ab o
 refine w10 ?_
 refine alL 21 fun _=> ?_
 refine w4 ?_
 refine AC.wk (Wk.nilS 4 6 3 .int rfl (Fresh.of rfl) (nlr rfl)) ?_
 refine lp0 s.1.2.length (fun k=>⟨[(3,lP 1 0),(4,lf (.val (.slice none 0 0))),(5,lB false),(6,lR 5),(22,lI (s.1.2.length:Int)),(23,lI (k:Int))],[bx 1 178 [.dat Qu r.1, .dat Y5 r.2],ar 5 3 .int (Wy (byT r) k)]⟩) ?_ fun k _=> ?_
 exact wp [(5,4)] ⟨rfl,(Qh (by first | rfl | simp)),trivial⟩
 have M:=HA (byT r) k
 have N:=‹StgOk s›.net.2.1
 refine w4 ?_
 cases t:(decide ((k:Int) < (s.1.2.length:Int)))
 have u:=aa t
 refine w9 ?_
 have J:(true:Bool)=((dtV s r).2):=by
  (rw[QdF ‹_› ‹_›]; done)
 exact fi_ [(0,5)] w ⟨(Qh (by (rw[QdF ‹_› ‹_›,(‹StgOk s›).len,show k=s.1.2.length by omega]; done))),trivial⟩ (h0:=by rw[← J] <;> rfl)
 have u:=ab t
 refine w15 ?_
 refine alL 27 fun _=> ?_
 refine w4 ?_
 refine QH (fun E F=>∃(i:Nat) (a:Bool),i≤r.2.length∧E=r.2.length - i∧(a=(r.2.take i).any (fun v:DMv=>decide (v.2.1=(k:Int))))∧F=⟨[(3,lP 1 0),(4,lf (.val (.slice none 0 0))),(5,lB false),(6,lR 5),(7,lI (k:Int)),(8,lB a),(22,lI (s.1.2.length:Int)),(23,lI (k:Int)),(24,lB true),(25,lI (k:Int)),(26,lP 1 1),(27,lf (.dat Y5 r.2)),(28,lI (r.2.length:Int)),(29,lI (i:Int))],[bx 1 178 [.dat Qu r.1, .dat Y5 r.2],ar 5 3 .int (Wy (byT r) k)]⟩) ⟨0,false,aP _,rfl,rfl,rfl⟩ ?_ ?_
 exact wo []
 rintro E F ⟨i,a,C,D,b,rfl⟩
 refine w4 ?_
 cases c:(decide ((i:Int) < (r.2.length:Int)))
 have g:=aa c
 refine w7 ?_
 cases A:(a)
 refine w4 ?_
 refine lc (dBs 6 (e:= .int) Zq) ?_
 refine lc (dA 7 YO) ?_
 refine w_ ?_
 refine Qf ?_
 refine w4 ?_
 refine Qf ?_
 refine l0_ ?_
 exact wp [(5,7)] ⟨rfl,(Qh (by first | exact Xm (f:=byT r) (by rw[Q8 (by omega)] at b; rw[byT,← b]; assumption) | exact We (f:=byT r) (by rw[Q8 (by omega)] at b; rw[byT,← b]; assumption))),trivial⟩
 refine w6 ?_
 refine Qf ?_
 refine l0_ ?_
 exact wp [] ⟨rfl,(Qh (by first | exact Xm (f:=byT r) (by rw[Q8 (by omega)] at b; rw[byT,← b]; assumption) | exact We (f:=byT r) (by rw[Q8 (by omega)] at b; rw[byT,← b]; assumption))),trivial⟩
 have g:=ab c
 refine w5 ?_
 obtain ⟨z,d⟩:=gx r.2 i
 refine w2 ?_
 refine lc (xal 8 Zx YX) ?_
 refine w5 ?_
 cases B:(a)
 refine w6 ?_
 refine Qf ?_
 refine w4 ?_
 refine Qf<|ZF ⟨i+1,(decide (z.2.1=(k:Int))),by omega,rfl,(by rw[Qjk d,← b]; first | exact Qdq ‹_› | exact Qdr ‹_›),rfl⟩ (by omega) ?_
 exact wo []
 refine w6 ?_
 refine Qf ?_
 refine w4 ?_
 refine Qf<|ZF ⟨i+1,true,by omega,rfl,(by rw[Qjk d,← b]; first | exact Qdq ‹_› | exact Qdr ‹_›),rfl⟩ (by omega) ?_
 exact wo []
end Go.Proofs.YtndabgcpnmeeoaaGreat
