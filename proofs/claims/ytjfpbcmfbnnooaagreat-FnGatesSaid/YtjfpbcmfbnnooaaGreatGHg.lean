/- Walks over abstract states: increasing lists of codes, valid functions, equal lists of texts, both sides. -/
import Derived.Test.YtjfpbcmfbnnooaaGreatGHc
import Derived.Test.YtjfpbcmfbnnooaaGreatGWk
import Derived.Test.YtjfpbcmfbnnooaaGreatGGa
import Derived.Test.YtjfpbcmfbnnooaaGreatGDf
set_option linter.unusedSimpArgs false
set_option linter.unusedVariables false
set_option linter.unusedSectionVars false
namespace Go.Proofs.YtjfpbcmfbnnooaaGreat
open Go.RowKit
set_option maxRecDepth 100000
set_option maxHeartbeats 4000000
def Wp (n:Int)(l:List ByteArray):Prop:=(∀c∈l,Ye c n)∧l.Pairwise fun x y=>ltB x y=true
instance (n:Int) (l:List ByteArray):Decidable (Wp n l):=inferInstanceAs (Decidable (_∧_))
def OOk (n:Int)(on off:List ByteArray):Prop:=(1≤n∧n≤8)∧(Wp n on∧(on.length:Int)≤64)∧(Wp n off∧(off.length:Int)≤256)∧(on.any fun c=>off.any fun y=>decide (c=y))=false
instance (n:Int) (on off:List ByteArray):Decidable (OOk n on off):=inferInstanceAs (Decidable (_∧_))
def Qi8 (n:Int)(l:List ByteArray)(j:Nat):Prop:=(∀c,l[j]? =some c→Ye c n)∧∀b c,0<j→l[j - 1]? =some b→l[j]? =some c→ltB b c=true
section
variable {n:Int}{l a b on off:List ByteArray}{c x y:ByteArray}{k j:Nat}
theorem Qno (h:∀j,j<k→Qi8 n l j)(r:l.length≤k):Wp n l:=by
 refine ⟨fun c p=> ?_,?_⟩
 ·obtain ⟨j,f⟩:=aK.1 p
  exact (h j (ba (ai.1 f).1 r)).1 c f
 ·rw[List.pairwise_iff_getElem]
  have m:∀d i (g:i<l.length) (f:i+d+1<l.length),ltB l[i] l[i+d+1]=true:=fun d=>by
   induction d with
   | zero=>intro i g f;exact (h (i+1) (by omega)).2 _ _ (by omega) (by rw[Nat.add_sub_cancel];exact ao g) (ao f)
   | succ d s=>
    intro i g f
    have o:=s i g (by omega)
    exact Yb.tr _ _ _ o ((h (i+(d+1)+1) (by omega)).2 _ _ (by omega) (by rw[Nat.add_sub_cancel];exact ao (by omega)) (ao f))
  intro i j g f q
  have:=m (j - i - 1) i g (by omega)
  have e:i+(j - i - 1)+1=j:=by omega
  simpa only[e] using this
theorem Qnp (d:l[k]? =some c)(h:¬Ye c n):¬Wp n l:=fun g=>h (g.1 c (ae d))
theorem Qnq (o:(0:Int)<(k:Int))(hb:l[((k:Int) - 1).toNat]? =some x)(m:l[k]? =some y)(h:Op.bytesLess x.toList y.toList=false):¬Wp n l:=fun g=>by
 obtain ⟨f,d⟩:=ai.1 hb
 obtain ⟨i,e⟩:=ai.1 m
 have:=List.pairwise_iff_getElem.1 g.2 _ _ f i (by omega)
 rw[d,e] at this
 unfold ltB at this
 rw[this] at h;cases h
theorem Qbc (d:∀j,j<k→Qi8 n l j)(h:Qi8 n l k):∀j,j<k+1→Qi8 n l j:=fun j f=>by
 by_cases e:j=k
 ·subst e;exact h
 ·exact d j (by omega)
theorem QdK (g:l[k]? =some c)(h:Ye c n)(i:¬(0:Int)<(k:Int)):Qi8 n l k:=⟨fun d e=>by rw[g] at e;cases e;exact h,fun _ _ f=>absurd f (by omega)⟩
theorem QdL (i:l[k]? =some y)(h:Ye y n)(o:(0:Int)<(k:Int))(hb:l[((k:Int) - 1).toNat]? =some x)(m:Op.bytesLess x.toList y.toList=true):Qi8 n l k:=⟨fun d g=>by rw[i] at g;cases g;exact h,fun b d _ e f=>by
 rw[show ((k:Int) - 1).toNat=k - 1 by omega] at hb
 rw[hb] at e;rw[i] at f;cases e;cases f
 exact m⟩
theorem QdC (h:Jt c n):Ye c n:=h.1
theorem Qun (d:1≤n∧n≤8)(h:¬Jt c n):¬Ye c n:=fun g=>h ⟨g,d⟩
theorem Qwj (h:¬(1≤n∧n≤8)):false=decide (OOk n on off):=(ay fun g=>h g.1).symm
theorem QsH (h:¬(Wp n on∧(on.length:Int)≤64)):false=decide (OOk n on off):=(ay fun g=>h g.2.1).symm
theorem QsI (h:¬(Wp n off∧(off.length:Int)≤256)):false=decide (OOk n on off):=(ay fun g=>h g.2.2.1).symm
theorem QBk (d:1≤n∧n≤8)(e:Wp n on∧(on.length:Int)≤64)(f:Wp n off∧(off.length:Int)≤256):(!(on.any fun c=>off.any fun y=>decide (c=y)))=decide (OOk n on off):=by
 cases h:(on.any fun c=>off.any fun y=>decide (c=y)) with
 | false=>exact (aN ⟨d,e,f,h⟩).symm
 | true=>exact (ay fun g=>by rw[g.2.2.2] at h;cases h).symm
theorem QxH (d:on[k]? =some c)(h:WE off c=true):false=decide (OOk n on off):=(ay fun g=>by
 have:=g.2.2.2
 rw[cr] at this
 exact this c (ae d) h).symm
theorem QxG (d:1≤n∧n≤8)(e:Wp n on)(f:¬(64:Int)<(on.length:Int))(g:Wp n off)(h:¬(256:Int)<(off.length:Int))(m:NoneTo (fun c=>WE off c) on k)(i:on.length≤k):true=decide (OOk n on off):=(aN ⟨d,⟨e,by omega⟩,⟨g,by omega⟩,m.any_no i⟩).symm
end
theorem U7 (n:Int)(l:List ByteArray)(e:Int)(C:1≤n∧n≤8):FC Tryz.prog 260 [(false,[dI n]),(false,[.dat Qb l]),(false,[dI e])] [] 0 (QK (lB (decide (Wp n l∧(l.length:Int)≤e)))):=by
 refine Qj Tryz.func260 rfl rfl Tryz.ntmps260 fun E q D w F A z=> ?_
 refine acI 0 fun _=> ?_
 refine acI 2 fun _=> ?_
 refine w6 ?_
 refine alL 9 fun _=> ?_
 refine w4 ?_
 refine lpK l.length (fun k=>∀j,j<k→Qi8 n l j) (fun k=>⟨[(0,lI n),(1,lf (.dat Qb l)),(2,lI e),(9,lf (.dat Qb l)),(10,lI (l.length:Int)),(11,lI (k:Int))],[]⟩) ((fun j B=>absurd B (aV j))) ?_ fun k _ r=> ?_
 exact wo []
 refine w4 ?_
 cases i:(decide ((k:Int)<(l.length:Int)))
 have m:=aa i
 refine w5 ?_
 refine alL 34 fun _=> ?_
 refine w5 ?_
 refine Qe<|fqB q ?_
 exact bF.2 ⟨fun g=>⟨Qno r (by omega),g⟩,fun g=>g.2⟩
 have m:=ab i
 refine w6 ?_
 obtain ⟨t,d⟩:=gx l k
 refine w8 ?_
 refine lc (dK (Qfp t n) Ql8) ?_
 refine w2 ?_
 cases o:(decide (Jt t n))
 have p:=aa o
 refine w3 ?_
 refine Qh rfl rfl rfl ?_ rfl
 refine Qh rfl rfl rfl ?_ rfl
 refine Qh rfl rfl rfl ?_ rfl
 refine Qh rfl rfl rfl ?_ rfl
 refine Qh rfl rfl rfl ?_ rfl
 refine Qh rfl rfl rfl ?_ rfl
 refine Qh rfl rfl rfl ?_ rfl
 refine w7 ?_
 refine Qe<|fqB q ?_
 exact (ay fun g=>Qnp d (Qun C ‹_›) g.1).symm
 have p:=ab o
 refine w3 ?_
 cases f:(decide (0<(k:Int)))
 have h:=aa f
 refine w16 ?_
 refine Qd ?_
 refine lK_ ((Qbc r (by first|exact QdL d (QdC ‹_›) ‹_› ‹_› ‹_› | exact QdK d (QdC ‹_›) ‹_›))) ?_
 exact wo []
 have h:=ab f
 refine w3 ?_
 obtain ⟨s,v⟩:=gx l (((k:Int) - 1).toNat)
 refine w3 ?_
 refine lgy rfl rfl (QgA (Qa rfl) (Qa rfl) rfl) ?_
 refine w3 ?_
 cases u:(Op.bytesLess s.toList t.toList)
 refine w4 ?_
 refine Qe<|fqB q ?_
 exact (ay fun g=>Qnq ‹_› ‹_› ‹_› ‹_› g.1).symm
 refine w6 ?_
 refine Qd ?_
 refine lK_ ((Qbc r (by first|exact QdL d (QdC ‹_›) ‹_› ‹_› ‹_› | exact QdK d (QdC ‹_›) ‹_›))) ?_
 exact wo []
theorem Kf (n:Int)(l:List ByteArray):FC Tryz.prog 307 [(false,[dI n]),(false,[.dat Qb l])] [] 0 (QK (lB (decide (Wp n l)))):=by
 refine Qj Tryz.func307 rfl rfl Tryz.ntmps307 fun B o z t C v u=> ?_
 refine acI 0 fun _=> ?_
 refine w6 ?_
 refine alL 7 fun _=> ?_
 refine w4 ?_
 refine lpK l.length (fun k=>∀j,j<k→Qi8 n l j) (fun k=>⟨[(0,lI n),(1,lf (.dat Qb l)),(7,lf (.dat Qb l)),(8,lI (l.length:Int)),(9,lI (k:Int))],[]⟩) ((fun j w=>absurd w (aV j))) ?_ fun k _ p=> ?_
 exact wo []
 refine w4 ?_
 cases e:(decide ((k:Int)<(l.length:Int)))
 have f:=aa e
 refine w6 ?_
 refine Qe<|fqB o ?_
 exact (aN (Qno p (by omega))).symm
 have f:=ab e
 refine w6 ?_
 obtain ⟨q,d⟩:=gx l k
 refine w8 ?_
 refine lc (dK (JW q n) QeH) ?_
 refine w2 ?_
 cases g:(decide (Ye q n))
 have h:=aa g
 refine w3 ?_
 refine Qh rfl rfl rfl ?_ rfl
 refine Qh rfl rfl rfl ?_ rfl
 refine Qh rfl rfl rfl ?_ rfl
 refine Qh rfl rfl rfl ?_ rfl
 refine Qh rfl rfl rfl ?_ rfl
 refine Qh rfl rfl rfl ?_ rfl
 refine Qh rfl rfl rfl ?_ rfl
 refine w7 ?_
 refine Qe<|fqB o ?_
 exact (ay (Qnp d ‹_›)).symm
 have h:=ab g
 refine w3 ?_
 cases i:(decide (0<(k:Int)))
 have m:=aa i
 refine w16 ?_
 refine Qd ?_
 refine lK_ ((Qbc p (by first|exact QdL d ‹_› ‹_› ‹_› ‹_› | exact QdK d ‹_› ‹_›))) ?_
 exact wo []
 have m:=ab i
 refine w3 ?_
 obtain ⟨A,s⟩:=gx l (((k:Int) - 1).toNat)
 refine w3 ?_
 refine lgy rfl rfl (QgA (Qa rfl) (Qa rfl) rfl) ?_
 refine w3 ?_
 cases r:(Op.bytesLess A.toList q.toList)
 refine w4 ?_
 refine Qe<|fqB o ?_
 exact (ay (Qnq ‹_› ‹_› ‹_› ‹_›)).symm
 refine w6 ?_
 refine Qd ?_
 refine lK_ ((Qbc p (by first|exact QdL d ‹_› ‹_› ‹_› ‹_› | exact QdK d ‹_› ‹_›))) ?_
 exact wo []
theorem KU (code:ByteArray)(off:List ByteArray):FC Tryz.prog 261 [(false,[dS code]),(false,[.ptr 0 0])] [bx 0 25 [.dat Qb off]] 1 (Is (lB (off.any (fun y=>decide (code=y)))) [bx 0 25 [.dat Qb off]]):=by
 refine Qj Tryz.func261 rfl rfl Tryz.ntmps261 fun i g h d m f e=> ?_
 refine w6 ?_
 refine lc (dK (Wd off code) QlS) ?_
 refine w3 ?_
 exact fi_ [] g ⟨rfl,trivial⟩
theorem Uk (l:List ByteArray)(off:List ByteArray):FC Tryz.prog 223 [(false,[.dat Qb l]),(false,[.clo 261 [0]])] [bx 0 25 [.dat Qb off]] 1 (Is (lI (Zf (fun c=>off.any (fun y=>decide (c=y))) l)) [bx 0 25 [.dat Qb off]]):=by
 refine Qj Tryz.func223 rfl rfl Tryz.ntmps223 fun u i t m v r q=> ?_
 refine w6 ?_
 refine alL 6 fun _=> ?_
 refine w4 ?_
 refine lpK l.length (fun k=>NoneTo (fun c=>off.any (fun y=>decide (c=y))) l k) (fun k=>⟨[(0,lf (.dat Qb l)),(1,lf (.clo 261 [0])),(7,lI (l.length:Int)),(8,lI (k:Int))],[bx 0 25 [.dat Qb off]]⟩) (NoneTo.zero) ?_ fun k _ d=> ?_
 exact wo []
 refine w4 ?_
 cases e:(decide ((k:Int)<(l.length:Int)))
 have f:=aa e
 refine w7 ?_
 have o:((-1):Int)=(Zf (fun c=>off.any (fun y=>decide (c=y))) l):=by
  first|exact (d.no (by omega)).symm
 exact fi_ [] i ⟨rfl,trivial⟩ (h0:=by rw[← o] <;> rfl)
 have f:=ab e
 refine w12 ?_
 obtain ⟨h,g⟩:=gx l k
 refine w2 ?_
 refine lc (Q3 (args0:=[(false,[dS h])]) (caps:=[0]) 1 [(0,0)] (KU h off) QlR rfl (Qa rfl) rfl rfl ⟨_,_,rfl,(Qn rfl),rfl⟩ ⟨rfl,trivial⟩ rfl ⟨trivial,trivial⟩ (nlr rfl)) ?_
 refine w_ ?_
 cases s:(off.any (fun y=>decide (h=y)))
 refine w6 ?_
 refine Qd ?_
 refine lK_ (d.step g ‹_›) ?_
 exact wo []
 refine w6 ?_
 have p:((k:Int):Int)=(Zf (fun c=>off.any (fun y=>decide (c=y))) l):=by
  exact (d.at g ‹_›).symm
 exact fi_ [] i ⟨rfl,trivial⟩ (h0:=by rw[p] <;> rfl)
theorem W8 (l:List ByteArray)(off:List ByteArray):FC Tryz.prog 142 [(false,[.dat Qb l]),(false,[.clo 261 [0]])] [bx 0 25 [.dat Qb off]] 1 (Is (lB (l.any (fun c=>off.any (fun y=>decide (c=y))))) [bx 0 25 [.dat Qb off]]):=by
 refine Qj Tryz.func142 rfl rfl Tryz.ntmps142 fun m h i d o g f=> ?_
 refine w6 ?_
 refine lc (dP 1 [] (Uk l off) WB) ?_
 refine w4 ?_
 have e:(decide (0≤(Zf (fun c=>off.any (fun y=>decide (c=y))) l)):Bool)=(l.any (fun c=>off.any (fun y=>decide (c=y)))):=by
  exact Xm _ _
 exact fi_ [] h ⟨rfl,trivial⟩ (h0:=by rw[e] <;> rfl)
theorem Xk (n:Int)(on:List ByteArray)(off:List ByteArray):FC Tryz.prog 199 [(false,[dI n]),(false,[.dat Qb on]),(false,[.dat Qb off])] [] 0 (QK (lB (decide (OOk n on off)))):=by
 refine Qj Tryz.func199 rfl rfl Tryz.ntmps199 fun s m r o t q p=> ?_
 refine acI 0 fun _=> ?_
 refine w_ ?_
 refine xbx 0 ?_
 refine w4 ?_
 refine lc (dK (Q7 n 1 8) Z6) ?_
 refine w_ ?_
 cases d:(decide (1≤n∧n≤8))
 have e:=aa d
 refine w16 ?_
 refine w_ ?_
 refine Qe<|fqB m ?_
 exact Qwj ‹_›
 have e:=ab d
 refine w2 ?_
 refine lgy rfl rfl (dK (U7 n on 64 ‹_›) Qe6) ?_
 refine w2 ?_
 cases f:(decide (Wp n on∧(on.length:Int)≤64))
 have g:=aa f
 refine w12 ?_
 refine Qe<|fqB m ?_
 exact QsH ‹_›
 have g:=ab f
 refine w2 ?_
 refine lgy rfl rfl (dK (U7 n off 256 ‹_›) Qe6) ?_
 refine w2 ?_
 cases h:(decide (Wp n off∧(off.length:Int)≤256))
 have i:=aa h
 refine w7 ?_
 refine Qe<|fqB m ?_
 exact QsI ‹_›
 have i:=ab h
 refine w_ ?_
 refine lgy rfl rfl (Q1 ⟨_,_,rfl,(Qa rfl),rfl,rfl⟩ rfl) ?_
 refine lgy rfl rfl (dP 1 [] (W8 on off) KL) ?_
 refine w4 ?_
 refine Qe<|fqB m ?_
 exact QBk ‹_› ‹_› ‹_›
theorem Ja (n:Int)(on:List ByteArray)(off:List ByteArray):FC Tryz.prog 265 [(false,[dI n]),(false,[.dat Qb on]),(false,[.dat Qb off])] [] 0 (QK (lB (decide (OOk n on off)))):=by
 refine Qj Tryz.func265 rfl rfl Tryz.ntmps265 fun F f E B G D C=> ?_
 refine acI 0 fun _=> ?_
 refine w6 ?_
 refine lc (dK (YA n 1 8) Xj) ?_
 refine w2 ?_
 cases i:(decide (1≤n∧n≤8))
 have m:=aa i
 refine w16 ?_
 refine w10 ?_
 refine Qe<|fqB f ?_
 exact Qwj ‹_›
 have m:=ab i
 refine w_ ?_
 refine alL 13 fun _=> ?_
 refine w4 ?_
 cases o:(decide (64<(on.length:Int)))
 have p:=aa o
 refine w_ ?_
 refine alL 18 fun _=> ?_
 refine w4 ?_
 cases q:(decide (256<(off.length:Int)))
 have r:=aa q
 refine w2 ?_
 refine lgy rfl rfl (dK (Kf n on) Qff) ?_
 refine w3 ?_
 cases s:(decide (Wp n on))
 have t:=aa s
 refine w10 ?_
 refine Qe<|fqB f ?_
 exact QsH (fun g=>absurd g.1 ‹_›)
 have t:=ab s
 refine w2 ?_
 refine lgy rfl rfl (dK (Kf n off) Qff) ?_
 refine w3 ?_
 cases u:(decide (Wp n off))
 have v:=aa u
 refine w4 ?_
 refine Qe<|fqB f ?_
 exact QsI (fun g=>absurd g.1 ‹_›)
 have v:=ab u
 refine w5 ?_
 refine alL 34 fun _=> ?_
 refine w4 ?_
 refine lpK on.length (fun k=>NoneTo (fun c=>WE off c) on k) (fun k=>⟨[(2,lf (.dat Qb off)),(34,lf (.dat Qb on)),(35,lI (on.length:Int)),(36,lI (k:Int))],[]⟩) (NoneTo.zero) ?_ fun k _ w=> ?_
 exact wo []
 refine w4 ?_
 cases d:(decide ((k:Int)<(on.length:Int)))
 have h:=aa d
 refine w6 ?_
 refine Qe<|fqB f ?_
 exact QxG ‹_› ‹_› (by omega) ‹_› (by omega) w (by omega)
 have h:=ab d
 refine w5 ?_
 obtain ⟨z,e⟩:=gx on k
 refine w7 ?_
 refine lc (dK (JU off z) Qfg) ?_
 refine w_ ?_
 cases A:(WE off z)
 refine w6 ?_
 refine Qd ?_
 refine lK_ (w.step e ‹_›) ?_
 exact wo []
 refine w4 ?_
 refine Qe<|fqB f ?_
 exact QxH e ‹_›
 have r:=ab q
 refine w16 ?_
 refine Qe<|fqB f ?_
 exact QsI (fun g=>by have:=g.2;omega)
 have p:=ab o
 refine w16 ?_
 refine w5 ?_
 refine Qe<|fqB f ?_
 exact QsH (fun g=>by have:=g.2;omega)
abbrev DOn:=List ByteArray×List ByteArray
def nsB (c:DSg)(sig k:Int):Bool:= !(decide (bAt (Ya c k) sig=49)==QW c k sig)
def pkF (c:DSg)(f:Int→Bool)(i:Nat):Option ByteArray:=if f (i:Int)=true then some (cdA c i) else none
def pkL (c:DSg)(f:Int→Bool)(k:Nat):List ByteArray:=rg (pkF c f) k
def Ku (c:DSg)(f g:Int→Bool):DOn:=(ofG ltB (pkL c f c.2.1.length),ofG ltB (pkL c g c.2.1.length))
def Yo (c:DSg)(f g:Int→Bool):Prop:=OOk (c.1.length:Int) (Ku c f g).1 (Ku c f g).2
instance (c:DSg) (f g:Int→Bool):Decidable (Yo c f g):=inferInstanceAs (Decidable (OOk _ _ _))
def QaP (c:DSg)(f g:Int→Bool):DOn:=if Yo c f g then Ku c f g else ([],[])
section
variable {c:DSg}{f g:Int→Bool}{k j:Nat}{w x:ByteArray}{u:UInt8}{sig q:Int}{l:List ByteArray}
theorem QzK (h:c.2.1[q.toNat]? =some w)(a:w[sig.toNat]? =some u):(!(decide (u=49)==QW c q sig))=nsB c sig q:=by unfold nsB;rw[Xf h,QY a]
theorem Qb2 (h:c.2.1[k]? =some w):cdA c k=w:=by unfold cdA;rw[h];rfl
theorem QcC (h:c.2.1[k]? =some w)(a:f (k:Int)=true):pkL c f k++[w]=pkL c f (k+1):=rgN (by unfold pkF;rw[if_pos a,Qb2 h])
theorem QcB (a:f (k:Int)=false):pkL c f k=pkL c f (k+1):=ZJ (by unfold pkF;rw[if_neg (by rw[a];decide)])
theorem Qf0:(pkL c f k).length≤k:=J6
theorem Qkw (xs:List ByteArray):Zp (Zd xs)=ofG ltB xs:=Qib Yb (K3 xs) fun _=>(Xp xs).mem_iff
theorem Qs8 (b:c.2.1.length≤k)(a:k≤c.2.1.length):Zp (Zd (pkL c f k))=(Ku c f g).1:=by
 obtain rfl:k=c.2.1.length:=by omega
 exact Qkw _
theorem Qs9 (b:c.2.1.length≤k)(a:k≤c.2.1.length):Zp (Zd (pkL c g k))=(Ku c f g).2:=by
 obtain rfl:k=c.2.1.length:=by omega
 exact Qkw _
theorem Qs7 (h:Yo c f g):QaP c f g=Ku c f g:=if_pos h
theorem QiO (h:¬Yo c f g):QaP c f g=([],[]):=if_neg h
theorem QhF {a b:List ByteArray}{m:Nat}(h:OOk (m:Int) (Zp (Zd a)) (Zp (Zd b)))(n:m=c.1.length)(i:a=pkL c f k)(hb:b=pkL c g k)(e:c.2.1.length≤k)(d:k≤c.2.1.length):Yo c f g:=by
 rw[i,hb,Qs8 (g:=g) e d,Qs9 (f:=f) e d,n] at h;exact h
theorem QhE {a b:List ByteArray}{m:Nat}(h:¬OOk (m:Int) (Zp (Zd a)) (Zp (Zd b)))(n:m=c.1.length)(i:a=pkL c f k)(hb:b=pkL c g k)(e:c.2.1.length≤k)(d:k≤c.2.1.length):¬Yo c f g:=by
 rw[i,hb,Qs8 (g:=g) e d,Qs9 (f:=f) e d,n] at h;exact h
theorem QzY {a:List ByteArray}(h:Yo c f g)(d:a=pkL c f k)(e:c.2.1.length≤k)(b:k≤c.2.1.length):Zp (Zd a)=(QaP c f g).1:=by rw[d,Qs8 (g:=g) e b,Qs7 h]
theorem QzZ {b:List ByteArray}(h:Yo c f g)(hb:b=pkL c g k)(d:c.2.1.length≤k)(a:k≤c.2.1.length):Zp (Zd b)=(QaP c f g).2:=by rw[hb,Qs9 (f:=f) d a,Qs7 h]
end
theorem Ux (c:ZM)(k:Int)(sig:Int)(d:SgOk c)(C:0≤sig∧sig≤(c.1.length:Int) - 1)(D:0≤k∧k<(c.2.1.length:Int)):FC Tryz.prog 197 [(true,[.dat Ql c.1,.dat Qb c.2.1,.dat QA c.2.2]),(false,[dI k]),(false,[dI sig])] [] 0 (QK (lB (nsB c sig k))):=by
 have r:=d.some_
 have p:=d.few
 have B:=d.sigs.2.2
 refine Qj Tryz.func197 rfl rfl Tryz.ntmps197 fun z n y h A m i=> ?_
 refine acI 1 fun _=> ?_
 refine acI 2 fun _=> ?_
 refine w_ ?_
 refine xbx 0 ?_
 refine w2 ?_
 obtain ⟨w,b⟩:=gx c.2.1 ((k).toNat)
 have s:=b
 have t:=(d.codes _ (ae b)).2
 obtain ⟨e,o⟩:=gs w ((sig).toNat)
 apply dW (i7 7 _ _ _ _ _ _ _ (io 14 (lB (decide (e=49)))::i3 15 _ _ _ [io 18 (lB (QW c k sig)),io 19 (lB (!((decide (e=49))==(QW c k sig)))),io 6 _])) [0,0,3,0,0,31,0,0,255,511,1023,255,0,0]
 refine z7 ?_
 refine zz (fun _ a=>ac (Q8 (a.v rfl) (QJ 49 rfl) rfl) rfl) ?_
 refine z3 ?_
 refine zz (fun _ a=>ac (dK (Y4 c k sig) Ht) rfl) ?_
 refine zz (fun _ a=>ac (Z0 (a.v rfl) (a.v rfl) rfl Y7) rfl) ?_
 exact y1
 refine Qe<|fqB n ?_
 first|exact QzK s ‹_›
theorem U5 (k:Int)(c:ZM)(sig:Int)(m:SgOk c)(h:0≤sig∧sig≤(c.1.length:Int) - 1)(i:0≤k∧k<(c.2.1.length:Int)):FC Tryz.prog 196 [(false,[dI k]),(false,[.ptr 0 0]),(false,[.ptr 1 0])] [bx 0 28 [.dat Ql c.1,.dat Qb c.2.1,.dat QA c.2.2],bx 1 3 [dI sig]] 2 (Is (lB (nsB c sig k)) [bx 0 28 [.dat Ql c.1,.dat Qb c.2.1,.dat QA c.2.2],bx 1 3 [dI sig]]):=by
 refine Qj Tryz.func196 rfl rfl Tryz.ntmps196 fun o e n a p d b=> ?_
 refine acI 0 fun _=> ?_
 refine w7 ?_
 refine alI 7 fun _=> ?_
 refine lc (dK (Ux c k sig m h i) QeX) ?_
 refine w3 ?_
 exact fi_ [] e ⟨rfl,rfl,trivial⟩
theorem X2 (k:Int)(c:ZM)(sig:Int)(m:SgOk c)(h:0≤sig∧sig≤(c.1.length:Int) - 1)(i:0≤k∧k<(c.2.1.length:Int)):FC Tryz.prog 198 [(false,[dI k]),(false,[.ptr 0 0]),(false,[.ptr 1 0])] [bx 0 28 [.dat Ql c.1,.dat Qb c.2.1,.dat QA c.2.2],bx 1 3 [dI sig]] 2 (Is (lB (!(nsB c sig k))) [bx 0 28 [.dat Ql c.1,.dat Qb c.2.1,.dat QA c.2.2],bx 1 3 [dI sig]]):=by
 refine Qj Tryz.func198 rfl rfl Tryz.ntmps198 fun o e n a p d b=> ?_
 refine acI 0 fun _=> ?_
 refine w7 ?_
 refine alI 7 fun _=> ?_
 refine lc (dK (Ux c k sig m h i) QeX) ?_
 refine w4 ?_
 exact fi_ [] e ⟨rfl,rfl,trivial⟩
theorem Qfs (g:ZM)(c:ZM)(sig:Int)(r:SgOk c)(E:0≤sig∧sig≤(c.1.length:Int) - 1)(o:g=c):FC Tryz.prog 195 [(true,[.dat Ql g.1,.dat Qb g.2.1,.dat QA g.2.2]),(false,[.clo 196 [0,1]]),(false,[.clo 198 [0,1]])] [bx 0 28 [.dat Ql c.1,.dat Qb c.2.1,.dat QA c.2.2],bx 1 3 [dI sig]] 2 (Is (PV.tup [(true,[.ref 2,.ref 3]),(false,[dB (decide (Yo c (fun q=>nsB c sig q) (fun q=> !(nsB c sig q))))])]) [bx 0 28 [.dat Ql c.1,.dat Qb c.2.1,.dat QA c.2.2],bx 1 3 [dI sig],ar 2 9 .str ((QaP c (fun q=>nsB c sig q) (fun q=> !(nsB c sig q))).1),ar 3 9 .str ((QaP c (fun q=>nsB c sig q) (fun q=> !(nsB c sig q))).2)]):=by
 have S:=r.some_
 have O:=r.few
 have X:=r.sigs.2.2
 have P:g.2.1.length=c.2.1.length:=by rw[o]
 have i:g.1.length=c.1.length:=by rw[o]
 refine Qj Tryz.func195 rfl rfl Tryz.ntmps195 fun V F U I W M L=> ?_
 refine w_ ?_
 refine xbx 2 ?_
 refine lc (xal 3 X9 YE) ?_
 refine w3 ?_
 refine lc (Qk JF rfl (au.1 rfl) rfl rfl)<|lc (xal 4 X9 YE) ?_
 refine w6 ?_
 refine alL 13 fun _=> ?_
 refine w4 ?_
 refine AC.wk (Qr 5 (p:=4) (off:=0) 9 .str rfl rfl (Fresh.of rfl) (nlr rfl))<|AC.wk (Qr 7 (p:=4) (off:=1) 9 .str rfl rfl (Fresh.of rfl) (nlr rfl)) ?_
 refine Qu (fun G H=>∃(k:Nat) (b:List ByteArray) (a:List ByteArray),k≤g.2.1.length∧G=g.2.1.length - k∧(b=pkL c (fun q=>nsB c sig q) k)∧(a=pkL c (fun q=> !(nsB c sig q)) k)∧H=⟨[(1,lf (.clo 196 [0,1])),(2,lf (.clo 198 [0,1])),(3,lP 2 0),(6,lP 3 0),(7,lB false),(8,lP 4 0),(13,lf (.dat Qb g.2.1)),(14,lI (g.2.1.length:Int)),(15,lI (k:Int))],[bx 0 28 [.dat Ql c.1,.dat Qb c.2.1,.dat QA c.2.2],bx 1 3 [dI sig],bx 2 28 [.dat Ql g.1,.dat Qb g.2.1,.dat QA g.2.2],bx 3 98 [.val (.slice none 0 0),.val (.slice none 0 0)],bx 4 98 [.ref 6,.ref 8],ar 6 9 .str b,ar 8 9 .str a]⟩) ⟨0,([]:(Qb:Ty).Den),([]:(Qb:Ty).Den),aL _,rfl,rfl,rfl,rfl⟩ ?_ ?_
 exact wp [(6,5),(8,7)] ⟨rfl,rfl,rfl,rfl,rfl,(Qm (by first|rfl|simp)),(Qm (by first|rfl|simp)),trivial⟩
 rintro G H ⟨k,b,a,Q,R,d,h,rfl⟩
 have T:b.length≤k:=by rw[d];exact Qf0
 have N:a.length≤k:=by rw[h];exact Qf0
 refine w4 ?_
 cases y:(decide ((k:Int)<(g.2.1.length:Int)))
 have z:=aa y
 refine w6 ?_
 refine lc (dP 9 [(0,6)] (JQ b (by omega)) VS) ?_
 refine w4 ?_
 refine lc (dP 10 [(0,8)] (JQ a (by omega)) VS) ?_
 refine w_ ?_
 apply dW (i2 45 _ _ [⟨some 47,lR 11,[ar 11 9 .str (Zp (Zd b)),(6,none)]⟩,io 48 (lP 4 1),io 49 (lR 8),⟨some 50,lR 12,[ar 12 9 .str (Zp (Zd a)),(8,none)]⟩,io 51 (lP 4 0),⟨none,lf (.val undef),[bx 4 98 [.ref 11,.ref 8]]⟩,io 52 _,⟨none,lf (.val undef),[bx 4 98 [.ref 11,.ref 12]]⟩]) [0,0,0,7,7,0,32,0,0,0]
 refine z2 ?_
 refine zz (fun _ m=>ac (dP 11 [(0,6)] (Za (Zd b) (by rw[Z8];omega)) VT) rfl) ?_
 refine z2 ?_
 refine zz (fun _ m=>ac (dP 12 [(0,8)] (Za (Zd a) (by rw[Z8];omega)) VT) rfl) ?_
 refine z_ ?_
 refine zz (fun _ m=>ac (ZA (m.v rfl) (m.en 4 rfl) (m.w rfl) (by simp only[Zj,Kq,bt,bW];rw[(m.en 11 rfl)];rfl) QaS rfl) rfl) ?_
 refine z_ ?_
 refine zz (fun _ m=>ac (ZA (m.v rfl) (m.en 4 rfl) (m.w rfl) (by simp only[Zj,Kq,bt,bW];rw[(m.en 12 rfl)];rfl) QaS rfl) rfl) ?_
 exact zN
 refine w4 ?_
 refine alL 54 fun _=> ?_
 refine w5 ?_
 refine lc (dB_ (Xk (g.1.length:Int) (Zp (Zd b)) (Zp (Zd a))) Qao) ?_
 refine w2 ?_
 cases A:(decide (OOk (g.1.length:Int) (Zp (Zd b)) (Zp (Zd a))))
 have B:=aa A
 refine w2 ?_
 refine lc (Qk JF rfl (au.1 rfl) rfl rfl) ?_
 refine w3 ?_
 refine AC.wk (Qr 13 (p:=3) (off:=0) 9 .str rfl rfl (Fresh.of rfl) (nlr rfl))<|AC.wk (Qr 14 (p:=3) (off:=1) 9 .str rfl rfl (Fresh.of rfl) (nlr rfl))<|Qe ?_
 have J:(false:Bool)=(decide (Yo c (fun q=>nsB c sig q) (fun q=> !(nsB c sig q)))):=by
  exact (ay (QhE ‹_› i d h (by omega) (by omega))).symm
 exact fi_ [(2,13),(3,14)] F ⟨rfl,rfl,(Qm (by (rw[QiO (QhE ‹_› i d h (by omega) (by omega))];done))),(Qm (by (rw[QiO (QhE ‹_› i d h (by omega) (by omega))];done))),trivial⟩ (h0:=by rw[← J] <;> rfl)
 have B:=ab A
 refine w8 ?_
 have K:(true:Bool)=(decide (Yo c (fun q=>nsB c sig q) (fun q=> !(nsB c sig q)))):=by
  exact (aN (QhF ‹_› i d h (by omega) (by omega))).symm
 exact fi_ [(2,11),(3,12)] F ⟨rfl,rfl,(Qm (by exact QzY (QhF ‹_› i d h (by omega) (by omega)) d (by omega) (by omega))),(Qm (by exact QzZ (QhF ‹_› i d h (by omega) (by omega)) h (by omega) (by omega))),trivial⟩ (h0:=by rw[← K] <;> rfl)
 have z:=ab y
 refine w6 ?_
 obtain ⟨w,C⟩:=gx g.2.1 k
 have D:c.2.1[k]? =some w:=by rw[← o];exact C
 refine w9 ?_
 refine lc (Q3 (args0:=[(false,[dI (k:Int)])]) (caps:=[0,1]) 15 [(0,0),(1,1)] (U5 (k:Int) c sig r E (by omega)) Qlx rfl (Qa rfl) rfl rfl ⟨_,_,rfl,(Qn rfl),rfl⟩ ⟨rfl,rfl,trivial⟩ rfl ⟨trivial,trivial,trivial⟩ (nlr rfl)) ?_
 refine w_ ?_
 cases n:(nsB c sig (k:Int))
 refine w5 ?_
 refine lc (Q3 (args0:=[(false,[dI (k:Int)])]) (caps:=[0,1]) 17 [(0,0),(1,1)] (X2 (k:Int) c sig r E (by omega)) QeY rfl (Qa rfl) rfl rfl ⟨_,_,rfl,(Qn rfl),rfl⟩ ⟨rfl,rfl,trivial⟩ rfl ⟨trivial,trivial,trivial⟩ (nlr rfl)) ?_
 refine w_ ?_
 have s:(nsB c sig (k:Int))=false:=n
 try rw[s]
 refine w5 ?_
 refine lc (dBs 19 (e:= .str) Z3) ?_
 refine lc (dA 20 YW) ?_
 refine w2 ?_
 refine Qd ?_
 refine w4 ?_
 refine Qd<|QV ⟨k+1,b,(a++([w])),by omega,rfl,(by rw[d];first|exact QcC D ‹_› | exact QcB ‹_›),(by rw[h];first|exact QcC D (by simp[*])|exact QcB (by simp[*])),rfl⟩ (by omega) ?_
 exact wp [(8,20)] ⟨rfl,rfl,rfl,rfl,rfl,rfl,(Qm (by first|rfl|simp)),trivial⟩
 refine w5 ?_
 refine lc (dBs 21 (e:= .str) Z3) ?_
 refine lc (dA 22 YW) ?_
 refine w6 ?_
 refine lc (Q3 (args0:=[(false,[dI (k:Int)])]) (caps:=[0,1]) 23 [(0,0),(1,1)] (X2 (k:Int) c sig r E (by omega)) QeY rfl (Qa rfl) rfl rfl ⟨_,_,rfl,(Qn rfl),rfl⟩ ⟨rfl,rfl,trivial⟩ rfl ⟨trivial,trivial,trivial⟩ (nlr rfl)) ?_
 refine w_ ?_
 have t:(nsB c sig (k:Int))=true:=n
 try rw[t]
 refine w6 ?_
 refine Qd<|QV ⟨k+1,(b++([w])),a,by omega,rfl,(by rw[d];first|exact QcC D ‹_› | exact QcB ‹_›),(by rw[h];first|exact QcC D (by simp[*])|exact QcB (by simp[*])),rfl⟩ (by omega) ?_
 exact wp [(6,22)] ⟨rfl,rfl,rfl,rfl,rfl,(Qm (by first|rfl|simp)),rfl,trivial⟩
def QaT (c:DSg)(sig:Int)(way:ByteArray)(k:Int):Bool×Bool:=
 if way=⟨#[100,111,119,110]⟩ then (QW c k sig&&decide (bAt (Ya c k) sig=49),!(QW c k sig==decide (bAt (Ya c k) sig=49)))
 else if way=⟨#[117,112]⟩ then (QW c k sig&& !decide (bAt (Ya c k) sig=49),QW c k sig==decide (bAt (Ya c k) sig=49))
 else (!(QW c k sig==decide (bAt (Ya c k) sig=49)),QW c k sig==decide (bAt (Ya c k) sig=49))
abbrev wOn (c:DSg)(sig:Int)(way:ByteArray)(k:Int):Bool:=(QaT c sig way k).1
abbrev wOf (c:DSg)(sig:Int)(way:ByteArray)(k:Int):Bool:=(QaT c sig way k).2
section
variable {c:DSg}{f g:Int→Bool}{k j:Nat}{w x s way:ByteArray}{u:UInt8}{sig q m:Int}{l o:List ByteArray}
theorem QsT (h:WE l x=true):l.Pairwise (fun a b=>ltB a b=true)→l=Zg ltB x l:=fun v=>by
 obtain ⟨i,d⟩:=aK.1 (WF.1 h)
 refine (QcD (k:=i) (fun j t y z=> ?_) d (Yb.irr x)).symm
 obtain ⟨p,e⟩:=ai.1 z
 obtain ⟨r,n⟩:=ai.1 d
 rw[← e,← n]
 exact List.pairwise_iff_getElem.1 v _ _ p r t
theorem QsJ (a:WE l x=false)(i:∀j:Nat,(j:Int)<m→∀y,l[j]? =some y→ltB y x=true)(h0:0≤m)(d:m≤(l.length:Int))(h:∀y,l[m.toNat]? =some y→ltB y x=false):l.take m.toNat++[x]++l.drop m.toNat=Zg ltB x l:=
 QzM i h0 d fun y b=>⟨h y b,fun e=>by subst e;rw[WF.2 (ae b)] at a;cases a⟩
theorem QcX (h:c.2.1[k]? =some w)(a:f (k:Int)=true):Zg ltB w (ofG ltB (pkL c f k))=ofG ltB (pkL c f (k+1)):=by rw[← QcC h a];exact Qj8
theorem QcW (a:f (k:Int)=false):ofG ltB (pkL c f k)=ofG ltB (pkL c f (k+1)):=by rw[QcB a]
theorem Qof:(ofG ltB (pkL c f k)).length≤k:=by
 have a:(ofG ltB (pkL c f k)).Nodup:=(WM Yb _).imp fun h e=>by subst e;rw[Yb.irr] at h;cases h
 have b:=Qcx a fun x d=>(WL Yb _).1 d
 exact bh b Qf0
end
theorem JR (l:List ByteArray)(x:ByteArray)(N:l.length≤900000000)(A:WE l x=false):FC Tryz.prog 312 [(false,[.dat Qb l]),(false,[dS x])] [] 0 (QK (lf (.dat Qb (Zg ltB x l)))):=by
 refine Qj Tryz.func312 rfl rfl Tryz.ntmps312 fun K t J E L G F=> ?_
 refine w8 ?_
 refine Qu (fun B C=>∃(m:Int),B=((l.length:Int) - m).toNat∧(0≤m∧m≤(l.length:Int))∧(∀j:Nat,(j:Int)<m→∀y,l[j]? =some y→ltB y x=true)∧C=⟨[(0,lf (.dat Qb l)),(1,lf (dS x)),(4,lf (.val (.slice none 0 0))),(5,lI m)],[]⟩) ⟨0,rfl,(by omega),(fun j M=>by omega),rfl⟩ ?_ ?_
 exact wo []
 rintro B C ⟨m,I,O,p,rfl⟩
 refine w4 ?_
 refine alL 7 fun _=> ?_
 refine w3 ?_
 cases b:(decide (m<(l.length:Int)))
 have d:=aa b
 refine w11 ?_
 apply dW (i2 20 _ _ [io 22 (lf (.dat Qb ((l.take (m).toNat).drop 0))),⟨some 23,lR 0,[ar 0 9 .str ((l.take (m).toNat).drop 0)]⟩,io 24 (lf (dS x)),⟨some 25,lR 1,[ar 1 9 .str ([x])]⟩,⟨some 26,lR 2,[ar 2 9 .str (((l.take (m).toNat).drop 0)++([x])),(0,none),(1,none)]⟩,io 27 (lf (.dat Qb l)),io 28 (lI m),io 29 (lf (.dat Qb ((l.take l.length).drop (m).toNat))),⟨some 30,lR 3,[ar 3 9 .str ((((l.take (m).toNat).drop 0)++([x]))++((l.take l.length).drop (m).toNat)),(2,none)]⟩,io 4 _]) [0,1,0,0,15,15,0,127,255,127,0,0]
 refine z2 ?_
 refine zz (fun _ a=>ac (Uu (l:=none) (h:=(some m)) (a.v rfl) (by exact trivial) (by exact (a.v rfl)) Zz ZX rfl (by simp only[ak,aj];omega) (by simp only[ak,aj];omega) (by simp only[ak,aj];omega)) rfl) ?_
 refine zz (fun _ a=>ac (dO 0 (JV ((l.take (m).toNat).drop 0) (by simp only[ap,aX];omega)) Qfe) rfl) ?_
 refine z_ ?_
 refine zz (fun _ a=>ac (dBs 1 (e:= .str) Z3) rfl) ?_
 refine zz (fun _ a=>ac (dA 2 YW (hb:=by (simp only[ah,ap,aX,av,aC];omega))) rfl) ?_
 refine z2 ?_
 refine zz (fun _ a=>ac (Uu (l:=(some m)) (h:=none) (a.v rfl) (by exact (a.v rfl)) (by exact trivial) Zz ZX rfl (by simp only[ak,aj];omega) (by simp only[ak,aj];omega) (by simp only[ak,aj];omega)) rfl)<|zz (fun _ a=>ac (Zi 3 (a.v rfl) (a.en 2 rfl) (Evl.rep (a.v rfl)) rfl Zz YW (by (simp only[ah,ap,aX,av,aC];omega)) rfl (a.fr 3 rfl) (nlr rfl)) rfl) ?_
 exact y1
 refine AC.wk (Wk.freeze (i:=4) (q:=3) rfl rfl)<|Qe<|fq_ t ?_
 (rw[dL,dy];exact QsJ A p (by omega) (by omega) (fun z n=>by rw[bD (by omega)] at n;cases n))
 have d:=ab b
 refine w2 ?_
 obtain ⟨y,r⟩:=gx l ((m).toNat)
 have D:=r
 refine w3 ?_
 refine lgy rfl rfl (QbU (Qa rfl) (Qa rfl) rfl) ?_
 refine w2 ?_
 cases H:(Op.bytesLess y.toList x.toList)
 refine w3 ?_
 apply dW (i2 20 _ _ [io 22 (lf (.dat Qb ((l.take (m).toNat).drop 0))),⟨some 23,lR 4,[ar 4 9 .str ((l.take (m).toNat).drop 0)]⟩,io 24 (lf (dS x)),⟨some 25,lR 5,[ar 5 9 .str ([x])]⟩,⟨some 26,lR 6,[ar 6 9 .str (((l.take (m).toNat).drop 0)++([x])),(4,none),(5,none)]⟩,io 27 (lf (.dat Qb l)),io 28 (lI m),io 29 (lf (.dat Qb ((l.take l.length).drop (m).toNat))),⟨some 30,lR 7,[ar 7 9 .str ((((l.take (m).toNat).drop 0)++([x]))++((l.take l.length).drop (m).toNat)),(6,none)]⟩,io 4 _]) [0,1,0,0,15,15,0,127,255,127,0,0]
 refine z2 ?_
 refine zz (fun _ a=>ac (Uu (l:=none) (h:=(some m)) (a.v rfl) (by exact trivial) (by exact (a.v rfl)) Zz ZX rfl (by simp only[ak,aj];omega) (by simp only[ak,aj];omega) (by simp only[ak,aj];omega)) rfl) ?_
 refine zz (fun _ a=>ac (dO 4 (JV ((l.take (m).toNat).drop 0) (by simp only[ap,aX];omega)) Qfe) rfl) ?_
 refine z_ ?_
 refine zz (fun _ a=>ac (dBs 5 (e:= .str) Z3) rfl) ?_
 refine zz (fun _ a=>ac (dA 6 YW (hb:=by (simp only[ah,ap,aX,av,aC];omega))) rfl) ?_
 refine z2 ?_
 refine zz (fun _ a=>ac (Uu (l:=(some m)) (h:=none) (a.v rfl) (by exact (a.v rfl)) (by exact trivial) Zz ZX rfl (by simp only[ak,aj];omega) (by simp only[ak,aj];omega) (by simp only[ak,aj];omega)) rfl)<|zz (fun _ a=>ac (Zi 7 (a.v rfl) (a.en 6 rfl) (Evl.rep (a.v rfl)) rfl Zz YW (by (simp only[ah,ap,aX,av,aC];omega)) rfl (a.fr 7 rfl) (nlr rfl)) rfl) ?_
 exact y1
 refine AC.wk (Wk.freeze (i:=4) (q:=7) rfl rfl)<|Qe<|fq_ t ?_
 (rw[dL,dy];exact QsJ A p (by omega) (by omega) (fun z n=>by rw[D] at n;cases n;assumption))
 refine w7 ?_
 refine Qd<|QV ⟨(m+1),rfl,(by omega),(Qvn p D ‹_›),rfl⟩ (by omega) ?_
 exact wo []
theorem V8 (l:List ByteArray)(x:ByteArray)(v:l.length≤900000000)(n:l.Pairwise fun a b=>ltB a b=true):FC Tryz.prog 306 [(false,[.dat Qb l]),(false,[dS x])] [] 0 (QK (lf (.dat Qb (Zg ltB x l)))):=by
 refine Qj Tryz.func306 rfl rfl Tryz.ntmps306 fun r d p e t i h=> ?_
 refine w7 ?_
 refine lc (dK (JU l x) Qfg) ?_
 refine w_ ?_
 refine cb_ (fun _=> ?_) fun _=> ?_
 refine w4 ?_
 refine lc (dK (JR l x (by omega) ‹_›) Qfh) ?_
 refine w3 ?_
 exact fe_ d
 refine w4 ?_
 refine Qe<|fq_ d ?_
 exact QsT ‹_› n
section
variable {c:DSg}{k:Nat}{w way code:ByteArray}{u:UInt8}{sig q n:Int}{l:List ByteArray}
def XF (c:DSg)(sig:Int)(way:ByteArray):DOn:=Ku c (wOn c sig way) (wOf c sig way)
def Qv (c:DSg)(sig:Int)(way:ByteArray):Prop:=(SgOk c∧(0≤sig∧sig≤(c.1.length:Int) - 1)∧XN c sig=false)∧Yo c (wOn c sig way) (wOf c sig way)
instance [∀c,Decidable (SgOk c)] (c:DSg) (sig:Int) (way:ByteArray):Decidable (Qv c sig way):=inferInstanceAs (Decidable (_∧_))
abbrev QL:ByteArray:=⟨#[110,101,120,116]⟩
theorem QbR:(wOn c sig QL)=(fun q=>nsB c sig q)∧(wOf c sig QL)=(fun q=> !(nsB c sig q)):=by
 have a:¬QL=(⟨#[100,111,119,110]⟩:ByteArray):=by decide
 have b:¬QL=(⟨#[117,112]⟩:ByteArray):=by decide
 constructor <;> funext q <;> simp only[wOn,wOf,QaT,if_neg a,if_neg b,nsB] <;> cases QW c q sig <;> cases decide (bAt (Ya c q) sig=49) <;> rfl
theorem QhQ:XF c sig QL=Ku c (fun q=>nsB c sig q) (fun q=> !(nsB c sig q)):=by unfold XF;rw[QbR.1,QbR.2]
theorem Qd8:Yo c (wOn c sig QL) (wOf c sig QL)↔Yo c (fun q=>nsB c sig q) (fun q=> !(nsB c sig q)):=by rw[QbR.1,QbR.2]
end
theorem Qde (c:ZM)(sig:Int)(way:ByteArray)(J:SgOk c)(hg:0≤sig∧sig≤(c.1.length:Int) - 1):FC Tryz.prog 264 [(true,[.dat Ql c.1,.dat Qb c.2.1,.dat QA c.2.2]),(false,[dI sig]),(false,[dS way])] [] 0 (QK (ag [.dat Qb ((XF c sig way).1),.dat Qb ((XF c sig way).2)])):=by
 have a1:=J.some_
 have Y:=J.few
 have h8:=J.sigs.2.2
 refine Qj Tryz.func264 rfl rfl Tryz.ntmps264 fun O_ X a3 Q X_ U T=> ?_
 refine acI 1 fun _=> ?_
 refine w_ ?_
 refine xbx 0 ?_
 refine lc (xal 1 X9 YE) ?_
 refine w2 ?_
 refine lc (xal 2 X9 YE) ?_
 refine w5 ?_
 refine alL 15 fun _=> ?_
 refine w4 ?_
 refine AC.wk (WH (p:=2) [.dat Qb ([]),.val (.slice none 0 0)] rfl ⟨_,_,rfl,.inr ⟨_,_,rfl,rfl⟩,⟨_,_,rfl,.inl rfl,rfl⟩⟩)<|AC.wk (WH (p:=2) [.dat Qb ([]),.dat Qb ([])] rfl ⟨_,_,rfl,.inl rfl,⟨_,_,rfl,.inr ⟨_,_,rfl,rfl⟩,rfl⟩⟩) ?_
 refine Qu (fun P I=>∃(k:Nat) (o:List ByteArray) (m:List ByteArray),k≤c.2.1.length∧P=c.2.1.length - k∧(o=ofG ltB (pkL c (wOn c sig way) k))∧(m=ofG ltB (pkL c (wOf c sig way) k))∧I=⟨[(1,lI sig),(2,lf (dS way)),(3,lP 0 0),(6,lP 1 0),(7,lP 2 0),(15,lf (.dat Qb c.2.1)),(16,lI (c.2.1.length:Int)),(17,lI (k:Int))],[bx 0 28 [.dat Ql c.1,.dat Qb c.2.1,.dat QA c.2.2],bx 1 98 [.val (.slice none 0 0),.val (.slice none 0 0)],bx 2 98 [.dat Qb o,.dat Qb m]]⟩) ⟨0,([]:(Qb:Ty).Den),([]:(Qb:Ty).Den),aL _,rfl,rfl,rfl,rfl⟩ ?_ ?_
 exact wo []
 rintro P I ⟨k,o,m,Z,a0,d,f,rfl⟩
 have V:o.length≤k:=by rw[d];exact Qof
 have W:m.length≤k:=by rw[f];exact Qof
 refine w4 ?_
 cases D:(decide ((k:Int)<(c.2.1.length:Int)))
 have E:=aa D
 refine w8 ?_
 have R:(o:(Qb:Ty).Den)=((XF c sig way).1):=by
  (rw[d,show k=c.2.1.length by omega];rfl)
 have S:(m:(Qb:Ty).Den)=((XF c sig way).2):=by
  (rw[f,show k=c.2.1.length by omega];rfl)
 exact fr_ X (e:=by rw[R,S] <;> rfl)
 have E:=ab D
 refine w6 ?_
 obtain ⟨w,G⟩:=gx c.2.1 k
 have r:=G
 have a2:=(J.codes _ (ae G)).2
 refine w5 ?_
 obtain ⟨u,F⟩:=gs w ((sig).toNat)
 have a:decide (bAt (Ya c (k:Int)) sig=49)=decide (u=49):=by rw[Xf r,QY F]
 apply dW (i3 22 _ _ _ (io 25 (lB (decide (u=49)))::i3 26 _ _ _ (io 29 (lB (QW c (k:Int) sig))::i2 10 _ _ []))) [0,1,0,0,15,31,63,15,0,0]
 refine z3 ?_
 refine zz (fun _ L=>ac (Q8 (L.v rfl) (QJ 49 rfl) rfl) rfl) ?_
 refine z3 ?_
 refine zz (fun _ L=>ac (dK (Z7 c (k:Int) sig) VC) rfl) ?_
 exact y2
 refine Qi4 (fun I=>∃(K:Bool) (H:Bool),(wOn c sig way (k:Int)=K)∧(wOf c sig way (k:Int)=H)∧I=⟨[(1,lI sig),(2,lf (dS way)),(3,lP 0 0),(6,lP 1 0),(7,lP 2 0),(8,lI (k:Int)),(9,lf (dS w)),(10,lB (decide (u=49))),(11,lB (QW c (k:Int) sig)),(12,lB K),(13,lB H),(15,lf (.dat Qb c.2.1)),(16,lI (c.2.1.length:Int)),(17,lI (k:Int)),(18,lB true),(19,lI (k:Int)),(20,lf (.elt .str w 0)),(21,lf (dS w)),(22,lf (dS w)),(23,lI sig),(24,lf (.dat .u8 u)),(25,lB (decide (u=49))),(26,ag [.dat Ql c.1,.dat Qb c.2.1,.dat QA c.2.2]),(27,lI (k:Int)),(28,lI sig),(29,lB (QW c (k:Int) sig))],[bx 0 28 [.dat Ql c.1,.dat Qb c.2.1,.dat QA c.2.2],bx 1 98 [.val (.slice none 0 0),.val (.slice none 0 0)],bx 2 98 [.dat Qb o,.dat Qb m]]⟩) ?_ fun i=> ?_
 rintro I ⟨K,H,h,g,rfl⟩
 refine w4 ?_
 cases M:(K)
 refine w5 ?_
 cases N:(H)
 refine w6 ?_
 refine Qd<|QV ⟨k+1,o,m,by omega,rfl,(by rw[d];first|exact absurd (by assumption:(true==true)=false) (by decide)|exact absurd (by assumption:(false==false)=false) (by decide)|exact absurd (by assumption:(true==false)=true) (by decide)|exact absurd (by assumption:(false==true)=true) (by decide)|exact QcX r (by rw[h];first|done|(simp[*];done))|exact QcW (by rw[h];first|done|(simp[*];done))),(by rw[f];first|exact absurd (by assumption:(true==true)=false) (by decide)|exact absurd (by assumption:(false==false)=false) (by decide)|exact absurd (by assumption:(true==false)=true) (by decide)|exact absurd (by assumption:(false==true)=true) (by decide)|exact QcX r (by rw[g];first|done|(simp[*];done))|exact QcW (by rw[g];first|done|(simp[*];done))),rfl⟩ (by omega) ?_
 exact wo []
 refine w5 ?_
 refine lc (dK (V8 m w (by omega) (by first|(rw[d];exact WM Yb _)|(rw[f];exact WM Yb _))) Qaw) ?_
 refine w2 ?_
 refine Qd ?_
 refine w4 ?_
 refine Qd<|QV ⟨k+1,o,(Zg ltB w m),by omega,rfl,(by rw[d];first|exact absurd (by assumption:(true==true)=false) (by decide)|exact absurd (by assumption:(false==false)=false) (by decide)|exact absurd (by assumption:(true==false)=true) (by decide)|exact absurd (by assumption:(false==true)=true) (by decide)|exact QcX r (by rw[h];first|done|(simp[*];done))|exact QcW (by rw[h];first|done|(simp[*];done))),(by rw[f];first|exact absurd (by assumption:(true==true)=false) (by decide)|exact absurd (by assumption:(false==false)=false) (by decide)|exact absurd (by assumption:(true==false)=true) (by decide)|exact absurd (by assumption:(false==true)=true) (by decide)|exact QcX r (by rw[g];first|done|(simp[*];done))|exact QcW (by rw[g];first|done|(simp[*];done))),rfl⟩ (by omega) ?_
 exact wo []
 refine w5 ?_
 refine lc (dK (V8 o w (by omega) (by first|(rw[d];exact WM Yb _)|(rw[f];exact WM Yb _))) Qaw) ?_
 refine w6 ?_
 cases O:(H)
 refine w6 ?_
 refine Qd<|QV ⟨k+1,(Zg ltB w o),m,by omega,rfl,(by rw[d];first|exact absurd (by assumption:(true==true)=false) (by decide)|exact absurd (by assumption:(false==false)=false) (by decide)|exact absurd (by assumption:(true==false)=true) (by decide)|exact absurd (by assumption:(false==true)=true) (by decide)|exact QcX r (by rw[h];first|done|(simp[*];done))|exact QcW (by rw[h];first|done|(simp[*];done))),(by rw[f];first|exact absurd (by assumption:(true==true)=false) (by decide)|exact absurd (by assumption:(false==false)=false) (by decide)|exact absurd (by assumption:(true==false)=true) (by decide)|exact absurd (by assumption:(false==true)=true) (by decide)|exact QcX r (by rw[g];first|done|(simp[*];done))|exact QcW (by rw[g];first|done|(simp[*];done))),rfl⟩ (by omega) ?_
 exact wo []
 refine w5 ?_
 refine lc (dK (V8 m w (by omega) (by first|(rw[d];exact WM Yb _)|(rw[f];exact WM Yb _))) Qaw) ?_
 refine w2 ?_
 refine Qd ?_
 refine w4 ?_
 refine Qd<|QV ⟨k+1,(Zg ltB w o),(Zg ltB w m),by omega,rfl,(by rw[d];first|exact absurd (by assumption:(true==true)=false) (by decide)|exact absurd (by assumption:(false==false)=false) (by decide)|exact absurd (by assumption:(true==false)=true) (by decide)|exact absurd (by assumption:(false==true)=true) (by decide)|exact QcX r (by rw[h];first|done|(simp[*];done))|exact QcW (by rw[h];first|done|(simp[*];done))),(by rw[f];first|exact absurd (by assumption:(true==true)=false) (by decide)|exact absurd (by assumption:(false==false)=false) (by decide)|exact absurd (by assumption:(true==false)=true) (by decide)|exact absurd (by assumption:(false==true)=true) (by decide)|exact QcX r (by rw[g];first|done|(simp[*];done))|exact QcW (by rw[g];first|done|(simp[*];done))),rfl⟩ (by omega) ?_
 exact wo []
 refine w3 ?_
 refine lc (Z0 (Qa rfl) (Qa rfl) rfl Y7) ?_
 refine w2 ?_
 refine lc (X0 (Qa rfl) (Qa rfl) rfl Y7) ?_
 refine w8 ?_
 cases s:(decide (way=(⟨#[117,112]⟩:ByteArray)))
 have z:=aa s
 refine w7 ?_
 cases t:(decide (way=(⟨#[100,111,119,110]⟩:ByteArray)))
 have A:=aa t
 refine w2 ?_
 refine XH (i _ ⟨(!((QW c (k:Int) sig)==(decide (u=49)))),((QW c (k:Int) sig)==(decide (u=49))),(by (simp only[wOn,wOf,QaT,a];simp[*];done)),(by (simp only[wOn,wOf,QaT,a];simp[*];done)),rfl⟩) ?_
 exact wo []
 have A:=ab t
 refine w4 ?_
 cases j:(QW c (k:Int) sig)
 refine w4 ?_
 refine lc (Z0 (Qa rfl) (Qa rfl) rfl Y7) ?_
 refine w3 ?_
 refine XH (i _ ⟨false,(!(false==(decide (u=49)))),(by (simp only[wOn,wOf,QaT,a];simp[*];done)),(by (simp only[wOn,wOf,QaT,a];simp[*];done)),rfl⟩) ?_
 exact Wk.of [] rfl ⟨rfl,rfl,rfl,rfl,rfl,rfl,rfl,rfl,(congrArg (fun z_=>some (lB z_)) ((j).symm)),rfl,rfl,rfl,rfl,rfl,rfl,rfl,rfl,rfl,rfl,rfl,rfl,rfl,rfl,rfl,rfl,(congrArg (fun z_=>some (lB z_)) ((j).symm)),trivial⟩ ⟨rfl,rfl,rfl,trivial⟩ rfl rfl
 refine w4 ?_
 refine lc (Z0 (Qa rfl) (Qa rfl) rfl Y7) ?_
 refine w3 ?_
 refine XH (i _ ⟨(decide (u=49)),(!(true==(decide (u=49)))),(by (simp only[wOn,wOf,QaT,a];simp[*];done)),(by (simp only[wOn,wOf,QaT,a];simp[*];done)),rfl⟩) ?_
 exact Wk.of [] rfl ⟨rfl,rfl,rfl,rfl,rfl,rfl,rfl,rfl,(congrArg (fun z_=>some (lB z_)) ((j).symm)),rfl,rfl,rfl,rfl,rfl,rfl,rfl,rfl,rfl,rfl,rfl,rfl,rfl,rfl,rfl,rfl,(congrArg (fun z_=>some (lB z_)) ((j).symm)),trivial⟩ ⟨rfl,rfl,rfl,trivial⟩ rfl rfl
 have z:=ab s
 refine w4 ?_
 cases b:(QW c (k:Int) sig)
 refine w5 ?_
 refine lc (X0 (Qa rfl) (Qa rfl) rfl Y7) ?_
 refine w8 ?_
 cases x:(decide (way=(⟨#[100,111,119,110]⟩:ByteArray)))
 have B:=aa x
 refine w2 ?_
 refine XH (i _ ⟨false,(false==(decide (u=49))),(by (simp only[wOn,wOf,QaT,a];simp[*];done)),(by (simp only[wOn,wOf,QaT,a];simp[*];done)),rfl⟩) ?_
 exact Wk.of [] rfl ⟨rfl,rfl,rfl,rfl,rfl,rfl,rfl,rfl,(congrArg (fun z_=>some (lB z_)) ((b).symm)),rfl,rfl,rfl,rfl,rfl,rfl,rfl,rfl,rfl,rfl,rfl,rfl,rfl,rfl,rfl,rfl,(congrArg (fun z_=>some (lB z_)) ((b).symm)),trivial⟩ ⟨rfl,rfl,rfl,trivial⟩ rfl rfl
 have B:=ab x
 refine w8 ?_
 refine lc (Z0 (Qa rfl) (Qa rfl) rfl Y7) ?_
 refine w3 ?_
 refine XH (i _ ⟨false,(!(false==(decide (u=49)))),(by exact absurd ((by assumption:way=⟨#[117,112]⟩).symm.trans (by assumption:way=⟨#[100,111,119,110]⟩)) (by decide)),(by exact absurd ((by assumption:way=⟨#[117,112]⟩).symm.trans (by assumption:way=⟨#[100,111,119,110]⟩)) (by decide)),rfl⟩) ?_
 exact Wk.of [] rfl ⟨rfl,rfl,rfl,rfl,rfl,rfl,rfl,rfl,(congrArg (fun z_=>some (lB z_)) ((b).symm)),rfl,rfl,rfl,rfl,rfl,rfl,rfl,rfl,rfl,rfl,rfl,rfl,rfl,rfl,rfl,rfl,(congrArg (fun z_=>some (lB z_)) ((b).symm)),trivial⟩ ⟨rfl,rfl,rfl,trivial⟩ rfl rfl
 refine w5 ?_
 refine lc (X0 (Qa rfl) (Qa rfl) rfl Y7) ?_
 refine w8 ?_
 cases y:(decide (way=(⟨#[100,111,119,110]⟩:ByteArray)))
 have C:=aa y
 refine w2 ?_
 refine XH (i _ ⟨(!(decide (u=49))),(true==(decide (u=49))),(by (simp only[wOn,wOf,QaT,a];simp[*];done)),(by (simp only[wOn,wOf,QaT,a];simp[*];done)),rfl⟩) ?_
 exact Wk.of [] rfl ⟨rfl,rfl,rfl,rfl,rfl,rfl,rfl,rfl,(congrArg (fun z_=>some (lB z_)) ((b).symm)),rfl,rfl,rfl,rfl,rfl,rfl,rfl,rfl,rfl,rfl,rfl,rfl,rfl,rfl,rfl,rfl,(congrArg (fun z_=>some (lB z_)) ((b).symm)),trivial⟩ ⟨rfl,rfl,rfl,trivial⟩ rfl rfl
 have C:=ab y
 refine w8 ?_
 refine lc (Z0 (Qa rfl) (Qa rfl) rfl Y7) ?_
 refine w3 ?_
 refine XH (i _ ⟨(decide (u=49)),(!(true==(decide (u=49)))),(by exact absurd ((by assumption:way=⟨#[117,112]⟩).symm.trans (by assumption:way=⟨#[100,111,119,110]⟩)) (by decide)),(by exact absurd ((by assumption:way=⟨#[117,112]⟩).symm.trans (by assumption:way=⟨#[100,111,119,110]⟩)) (by decide)),rfl⟩) ?_
 exact Wk.of [] rfl ⟨rfl,rfl,rfl,rfl,rfl,rfl,rfl,rfl,(congrArg (fun z_=>some (lB z_)) ((b).symm)),rfl,rfl,rfl,rfl,rfl,rfl,rfl,rfl,rfl,rfl,rfl,rfl,rfl,rfl,rfl,rfl,(congrArg (fun z_=>some (lB z_)) ((b).symm)),trivial⟩ ⟨rfl,rfl,rfl,trivial⟩ rfl rfl
end Go.Proofs.YtjfpbcmfbnnooaaGreat
