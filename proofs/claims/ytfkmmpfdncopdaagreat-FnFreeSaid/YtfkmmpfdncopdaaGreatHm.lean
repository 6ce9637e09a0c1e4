/- A bit outside the support of a cover. Plain law. -/
import Derived.Test.YtfkmmpfdncopdaaGreatHk
import Derived.Test.YtfkmmpfdncopdaaGreatHx
set_option linter.unusedSimpArgs false
set_option linter.unusedVariables false
set_option linter.unusedSectionVars false
namespace Go.Proofs.YtfkmmpfdncopdaaGreat
open Go.RowKit
set_option maxRecDepth 100000
set_option maxHeartbeats 4000000
def Uf (x b:ByteArray)(i:Int):ByteArray:=(x.extract 0 i.toNat++b)++x.extract (i+1).toNat x.size
abbrev Qb7:ByteArray:=⟨#[45,45,45,45,45,45,45,45]⟩
section
variable {l:List ByteArray}{c x y b c0:ByteArray}{n i:Int}{m k j:Nat}
theorem V6:∀{n:Nat} {x:ByteArray},x∈Qr n→∀u∈x.toList,u=48∨u=49
  | 0,x,h=>by rw[Qr,aE] at h; subst h; intro u hu; rw[aZ] at hu; cases hu
  | n+1,x,h=>by
    rw[Qr,List.mem_flatMap] at h
    obtain ⟨c,hc,h⟩:=h
    have h1:=V6 hc
    simp only[cdF,aC,cC,or_false] at h
    intro u hu
    rw[aZ] at hu
    rcases h with rfl | rfl
    · have hu : u ∈ c.data.toList ++ [48] := by simpa using hu
      rcases aH.1 hu with h2 | h2
      · exact h1 u (by rw[aZ]; exact h2)
      · exact .inl (aE.1 h2)
    · have hu : u ∈ c.data.toList ++ [49] := by simpa using hu
      rcases aH.1 hu with h2 | h2
      · exact h1 u (by rw[aZ]; exact h2)
      · exact .inr (aE.1 h2)
theorem Qmh:∀m:Nat,m < 9→∀i,i < m→bAt (Qb7.extract 0 m) ((i:Nat):Int)=45:=by decide+kernel
theorem Qac (h1:1≤m)(h8:m≤8):Zp (m:Int) [Qb7.extract 0 m]:=by
  have:∀m:Nat,m < 9→1≤m→Zp (m:Int) [Qb7.extract 0 m]:=by decide+kernel
  exact this m (by omega) h1
theorem QhW (h8:m≤8):Qeh (m:Int) [Qb7.extract 0 m]=Qr m:=by
  unfold Qeh
  rw[Int.toNat_natCast,cB]
  intro x _
  simp only[List.any_cons,List.any_nil,Bool.or_false]
  unfold YO
  rw[aw]
  intro i hi
  have hs:(Qb7.extract 0 m).size=m:=by
    have:∀m:Nat,m < 9→(Qb7.extract 0 m).size=m:=by decide+kernel
    exact this m (by omega)
  rw[cr,hs] at hi
  rw[Qmh m (by omega) i hi]; rfl
theorem Qbx (hC:Zp (c0.size:Int) l)(hx:x∈Qr c0.size):ccP l x:=by
  have h:=Z8 hx
  unfold ccP
  rw[h]
  exact ⟨hC,⟨V6 hx,by rw[h]⟩,hC.1⟩
theorem QbC (s:ByteArray)(j:Nat):bAt s (j:Int)=(s.toList[j]?).getD 0:=Wj s (j:Int)
theorem QcT (h0:0≤i)(hi:i < (x.size:Int))(hb:b.size=1):(Uf x b i).toList=x.toList.take i.toNat++b.toList++x.toList.drop (i.toNat+1):=by
  unfold Uf
  simp only[aZ,ByteArray.data_append,ByteArray.data_extract,Array.toList_append,Array.toList_extract]
  rw[show (i+1).toNat=i.toNat+1 by omega]
  simp[List.extract,b7]
theorem QiP (h0:0≤i)(hi:i < (x.size:Int))(hb:b.size=1):(Uf x b i).size=x.size:=by
  unfold Uf
  simp only[aK,aL,hb]
  omega
theorem QiD (h0:0≤i)(hi:i < (x.size:Int))(hb:b.size=1)(hB:∀u∈b.toList,u=48∨u=49)(hx:∀u∈x.toList,u=48∨u=49):∀u∈(Uf x b i).toList,u=48∨u=49:=fun u hu=>by
  rw[QcT h0 hi hb] at hu
  rcases aH.1 hu with hu | hu
  · rcases aH.1 hu with hu | hu
    · exact hx u (List.mem_of_mem_take hu)
    · exact hB u hu
  · exact hx u (List.mem_of_mem_drop hu)
theorem Qax (hC:Zp (c0.size:Int) l)(hx:x∈Qr c0.size)(h0:0≤i)(hi:i < (c0.size:Int))(hb:b.size=1)(hB:∀u∈b.toList,u=48∨u=49):ccP l (Uf x b i):=by
  have h:=Z8 hx
  have hs:=QiP (x:=x) (b:=b) h0 (by rw[h]; exact hi) hb
  unfold ccP
  rw[hs,h]
  exact ⟨hC,⟨QiD h0 (by rw[h]; exact hi) hb hB (V6 hx),by rw[hs,h]⟩,hC.1⟩
theorem Qnd (h0:0≤i)(hi:i < (x.size:Int))(hb:b.size=1)(hj:j≠i.toNat):bAt (Uf x b i) (j:Int)=bAt x (j:Int):=by
  rw[QbC,QbC,QcT h0 hi hb]
  have hbl:b.toList.length=1:=by rw[YV]; exact hb
  have hxl:x.toList.length=x.size:=YV x
  congr 1
  by_cases h:j < i.toNat
  · rw[aW,b9 (by rw[ap]; omega),List.getElem?_take_of_lt h]
  · rw [bd (by rw [ak, ap]; omega), bY]
    congr 1
    rw[ak,ap]; omega
theorem Qj7 (h0:0≤i)(hi:i < (x.size:Int))(hb:b.size=1)(hc:bAt c i=45):YO c (Uf x b i)=YO c x:=by
  unfold YO
  rw[bP,aw,aw]
  have key:∀j:Nat,(decide (bAt c (j:Int)=45)||decide (bAt c (j:Int)=bAt (Uf x b i) (j:Int)))=(decide (bAt c (j:Int)=45)||decide (bAt c (j:Int)=bAt x (j:Int))):=fun j=>by
    by_cases e:j=i.toNat
    · have : bAt c (j : Int) = 45 := by rw [e, show ((i.toNat : Nat) : Int) = i by omega]; exact hc
      rw[this]; simp
    · rw[Qnd h0 hi hb e]
  exact ⟨fun h j hj=>by rw[← key]; exact h j hj,fun h j hj=>by rw[key]; exact h j hj⟩
theorem QlX (hS:YT l)(h0:0≤i)(hi:i < (n0 l:Int))(hn:¬i∈Xt l):∀c∈l,bAt c i=45:=fun c hc=>by
  unfold Xt at hn
  rw[if_pos hS] at hn
  unfold Kh at hn
  rw[cj] at hn
  refine bN fun g=>hn ⟨b8.2 ⟨i.toNat,cr.2 (by omega),by omega⟩,bR.2 ⟨c,hc,by simp[g]⟩⟩
theorem Qae (hS:YT l)(hc0:l[0]? =some c0)(hx:x∈Qr c0.size)(h0:0≤i)(hi:i < (c0.size:Int))(hb:b.size=1)(hB:∀u∈b.toList,u=48∨u=49)(hn:¬i∈Xt l):ccV l x=ccV l (Uf x b i):=by
  have e0:n0 l=c0.size:=Qaj hc0
  have hC:Zp (c0.size:Int) l:=by rw[← e0]; exact hS.2
  have hd:=QlX hS h0 (by rw[e0]; exact hi) hn
  have hs:=Z8 hx
  unfold ccV
  rw[aJ (Qbx hC hx),aJ (Qax hC hx h0 hi hb hB),Bool.true_and,Bool.true_and]
  have:∀c∈l,YO c (Uf x b i)=YO c x:=fun c hc=>Qj7 h0 (by rw[hs]; exact hi) hb (hd c hc)
  rw[bP,bR,bR]
  exact ⟨fun ⟨c,h1,h2⟩=>⟨c,h1,by rw[this c h1]; exact h2⟩,fun ⟨c,h1,h2⟩=>⟨c,h1,by rw[← this c h1]; exact h2⟩⟩
theorem QoF {c:DSg}{x:ByteArray}(h:(unrV c)[k]? =some x):Zb (fun y=>decide (y=x)) c.2.1 < 0:=by
  by_cases hs:SgOk c
  · have hm := ao h
    rw[Qdq hs,cj] at hm
    have h2:=hm.2
    simp only[bD,cc] at h2
    unfold Zb
    have:c.2.1.findIdx? (fun y=>decide (y=x))=none:=by
      rw[cu]
      intro y hy
      have:=h2 y hy
      simp only[aT] at this
      exact az fun e=>this e.symm
    rw[this]; decide
  · rw[QfW hs] at h; cases h
end
end Go.Proofs.YtfkmmpfdncopdaaGreat
namespace Go.Proofs.YtfkmmpfdncopdaaGreat
open Go.RowKit
set_option maxRecDepth 100000
set_option maxHeartbeats 4000000
theorem XX:(⟨#[48]⟩:ByteArray).size=1∧∀u∈(⟨#[48]⟩:ByteArray).toList,u=48∨u=49:=⟨rfl,by decide+kernel⟩
theorem XY:(⟨#[49]⟩:ByteArray).size=1∧∀u∈(⟨#[49]⟩:ByteArray).toList,u=48∨u=49:=⟨rfl,by decide+kernel⟩
theorem Qbn (code:List UInt8)(more:List UInt8):FC Tryz.prog 3 [(false,[.dat (.sl 5 .u8) code]),(false,[.dat (.sl 5 .u8) more])] [] 0 (QU (lB true)):=by
 classical
 refine Qj Tryz.func3 rfl rfl Tryz.ntmps3 fun O_ hO w0_ N0_ X_ h0_ f0_=> ?_
 iterate 7 refine w_ ?_
 refine lc (dK (Qeo code more) Qlp) ?_
 refine w_ ?_
 refine cd_ (fun hb1 hb1'=> ?_) fun hb1 hb1'=> ?_
 ·iterate 3 refine w_ ?_
  refine Q4 0 [] (XR code) QlL e1_ trivial rfl (fun _=>rfl) (fun _=>trivial) (nlr rfl) fun xc hxc=>lc (xal 0 (.pr (.sl 203 (.pr .str .int)) (.pr (.sl 9 .str) (.sl 136 (.pr .int (.pr .int (.pr .bool .int)))))) Yr) ?_
  iterate 4 refine w_ ?_
  refine lc (dK (WO xc).frozenG QkC) ?_
  iterate 8 refine w_ ?_
  refine lc (dK (WN xc).frozenG Qio) ?_
  iterate 10 refine w_ ?_
  refine lc (ZI (Qa rfl) (Qa rfl) rfl Zc) ?_
  refine w_ ?_
  cases hb4:((decide (SgOk xc))==(decide (SgOk xc)))
  ·iterate 10 refine w_ ?_
   refine Qb<|fqB hO ?_
   first | rfl | (exfalso; omega) | (exfalso; have h_:=hfl (by assumption); have h2_:=(by assumption:(_==_)=false); rw[h_] at h2_; simp at h2_; done) | (simp; done) | (exfalso; simp_all; done)
  ·iterate 2 refine w_ ?_
   refine lgy rfl rfl (dK (K4 (unrV xc) (unrV xc) rfl) Qin) ?_
   iterate 9 refine w_ ?_
   refine cd_ (fun hb5 hb5'=> ?_) fun hb5 hb5'=> ?_
   ·iterate 3 refine w_ ?_
    refine Q4 1 [] (XZ more).frozenX Qcy e1_ trivial rfl (fun _=>rfl) (fun _=>trivial) (nlr rfl) fun xl hxl=> ?_
    iterate 4 refine w_ ?_
    refine lc (dK (VE xl).frozenG Qcp) ?_
    iterate 8 refine w_ ?_
    refine lc (dK (VG xl).frozenG QcO) ?_
    iterate 10 refine w_ ?_
    refine lc (ZI (Qa rfl) (Qa rfl) rfl Zc) ?_
    refine w_ ?_
    cases hb8:((decide (YT xl))==(decide (YT xl)))
    ·iterate 10 refine w_ ?_
     refine Qb<|fqB hO ?_
     first | rfl | (exfalso; omega) | (exfalso; have h_:=hfl (by assumption); have h2_:=(by assumption:(_==_)=false); rw[h_] at h2_; simp at h2_; done) | (simp; done) | (exfalso; simp_all; done)
    ·iterate 2 refine w_ ?_
     refine lgy rfl rfl (dK (W6 (Xt xl) (Xt xl) rfl) QcJ) ?_
     iterate 9 refine w_ ?_
     refine cd_ (fun hb9 hb9'=> ?_) fun hb9 hb9'=> ?_
     ·iterate 3 refine w_ ?_
      refine Q4 1 [] (Z0 more) Uo e1_ trivial rfl (fun _=>rfl) (fun _=>trivial) (nlr rfl) fun xn hxn=> ?_
      iterate 4 refine w_ ?_
      refine lc (xal 1 (.pr (.sl 203 (.pr .str .int)) (.pr (.sl 9 .str) (.sl 136 (.pr .int (.pr .int (.pr .bool .int)))))) Yr) ?_
      iterate 8 refine w_ ?_
      refine lc (dK (Yu xn.1 xn.2.1 xn.2.2) Uu) ?_
      iterate 10 refine w_ ?_
      refine lc (dK (Ys xn.1 xn.2.1 xn.2.2) UJ) ?_
      iterate 8 refine w_ ?_
      refine Q4 2 [] (Zs more) UF e1_ trivial rfl (fun _=>rfl) (fun _=>trivial) (nlr rfl) fun xo hxo=> ?_
      iterate 3 refine w_ ?_
      refine lc (xal 2 (.pr (.sl 9 .str) (.sl 9 .str)) Z2)<|lc (xal 3 (.pr (.sl 9 .str) (.sl 9 .str)) Z2) ?_
      iterate 3 refine w_ ?_
      cases hb14:((nvB xn.1 xn.2.1 xn.2.2)==(nvB xn.1 xn.2.1 xn.2.2))
      ·apply dW (i2 189 _ _ (io 191 (lB false) :: i9 192 _ _ _ _ _ _ _ _ _ (i5 201 _ _ _ _ _ [io 4 _]))) [0,1,0,0,0,16,0,0,0,0,512,0,3584,7680,0,0,0,0]
       iterate 2 refine z_ ?_
       refine zz (fun _ h_=>ac (QA (hb14) (QG (h_.v rfl) (h_.v rfl) rfl Zc)) rfl) ?_
       iterate 15 refine z_ ?_
       exact zN
       refine Qb<|fqB hO ?_
       first | rfl | (exfalso; omega) | (exfalso; have h_:=hfl (by assumption); have h2_:=(by assumption:(_==_)=false); rw[h_] at h2_; simp at h2_; done) | (simp; done) | (exfalso; simp_all; done)
      ·cases hb15:((nvV xn.1 xn.2.1 xn.2.2)==(nvV xn.1 xn.2.1 xn.2.2))
       ·apply dW (i2 189 _ _ (io 191 (lB true) :: i3 192 _ _ _ (io 195 (lB false) :: i9 196 _ _ _ _ _ _ _ _ _ [io 205 _,io 4 _]))) [0,1,0,0,0,16,0,0,0,0,512,0,3584,7680,0,0,0,0]
        iterate 2 refine z_ ?_
        refine zz (fun _ h_=>ac (QA (hb14) (QG (h_.v rfl) (h_.v rfl) rfl Zc)) rfl) ?_
        iterate 3 refine z_ ?_
        refine zz (fun _ h_=>day rfl (h_.k rfl) (QA (hb15) (QG (h_.v rfl) (h_.v rfl) rfl Zc)) rfl) ?_
        iterate 11 refine z_ ?_
        exact zN
        refine Qb<|fqB hO ?_
        first | rfl | (exfalso; omega) | (exfalso; have h_:=hfl (by assumption); have h2_:=(by assumption:(_==_)=false); rw[h_] at h2_; simp at h2_; done) | (simp; done) | (exfalso; simp_all; done)
       ·apply dW (i2 189 _ _ (io 191 (lB true) :: i3 192 _ _ _ (io 195 (lB true) :: i4 196 _ _ _ _ (io 200 (lB (decide (xo.1.1=xo.2.1∧xo.1.2=xo.2.2))) :: i2 201 _ _ [io 203 (lB (decide (xo.1.1=xo.2.1∧xo.1.2=xo.2.2))),io 204 (lB ((decide (xo.1.1=xo.2.1∧xo.1.2=xo.2.2))==(decide (xo.1.1=xo.2.1∧xo.1.2=xo.2.2)))),io 205 _,io 4 _])))) [0,1,0,0,0,16,0,0,0,0,512,0,3584,7680,0,0,0,0]
        iterate 2 refine z_ ?_
        refine zz (fun _ h_=>ac (QA (hb14) (QG (h_.v rfl) (h_.v rfl) rfl Zc)) rfl) ?_
        iterate 3 refine z_ ?_
        refine zz (fun _ h_=>day rfl (h_.k rfl) (QA (hb15) (QG (h_.v rfl) (h_.v rfl) rfl Zc)) rfl) ?_
        iterate 4 refine z_ ?_
        refine zz (fun _ h_=>day rfl (h_.k rfl) (dK (ZQ xo.1 xo.2) Uq) rfl) ?_
        iterate 2 refine z_ ?_
        refine zz (fun _ h_=>day rfl (h_.k rfl) (dK (ZP xo.1 xo.2) UK) rfl) ?_
        refine zz (fun _ h_=>day rfl (h_.k rfl) (QG (h_.v rfl) (h_.v rfl) rfl Zc) rfl) ?_
        iterate 2 refine z_ ?_
        exact zN
        refine Qb<|fqB hO ?_
        first | rfl | (exfalso; omega) | (exfalso; have h_:=hfl (by assumption); have h2_:=(by assumption:(_==_)=false); rw[h_] at h2_; simp at h2_; done) | (simp; done) | (exfalso; simp_all; done)
     ·refine Zl ?_
      have hS:=(by assumption:YT xl)
      have hl0:=hS.1
      have hds:(⟨#[45,45,45,45,45,45,45,45]⟩:ByteArray).size=8:=rfl
      iterate 2 refine w_ ?_
      obtain ⟨c0,hx17⟩:∃z,xl[0]? =some z:=⟨_,aa (by omega)⟩
      have hc0:=hx17
      iterate 2 refine w_ ?_
      refine alS 98 fun hl18=> ?_
      refine lc (QI (Qa rfl) rfl QR) ?_
      iterate 2 refine w_ ?_
      refine Zl ?_
      have hC:Zp (c0.size:Int) xl:=by rw[← Qaj hc0]; exact hS.2
      have h8:=Qha hC
      have h1:1≤c0.size:=by have:=hC.1; omega
      iterate 3 refine w_ ?_
      refine lc (show Does _ _ _ _ (St.put _ 103 (lf (dS ((⟨#[45,45,45,45,45,45,45,45]⟩:ByteArray).extract 0 ((c0.size:Int)).toNat)))) from Qw (l:=none) (h:=(some (c0.size:Int))) (Evl.str rfl) (by exact trivial) (by exact (Qa rfl)) QR rfl (by first | omega | (simp only[ai,ah]; omega)) (by first | omega | (simp only[ai,ah]; omega)) (by first | omega | (simp only[ai,ah]; omega))) ?_
      refine lc (dBs 4 (e:= .str) ZZ) ?_
      refine AL.wk (Wk.freeze (i:=104) (q:=4) rfl rfl) ?_
      refine lc (dK (W2 (c0.size:Int) ([(⟨#[45,45,45,45,45,45,45,45]⟩:ByteArray).extract 0 ((c0.size:Int)).toNat])).frozenG Qci) ?_
      iterate 7 refine w_ ?_
      refine Zl ?_
      rw[show (decide (Zp (c0.size:Int) ([(⟨#[45,45,45,45,45,45,45,45]⟩:ByteArray).extract 0 ((c0.size:Int)).toNat])))=true from aJ (by simpa using Qac h1 h8)]
      rw[show (if Zp (c0.size:Int) ([(⟨#[45,45,45,45,45,45,45,45]⟩:ByteArray).extract 0 ((c0.size:Int)).toNat]) then Qeh (c0.size:Int) ([(⟨#[45,45,45,45,45,45,45,45]⟩:ByteArray).extract 0 ((c0.size:Int)).toNat]) else [])=Qr c0.size from (if_pos (by simpa using Qac h1 h8)).trans (by simpa using QhW h8)]
      iterate 8 refine w_ ?_
      refine alL 110 fun hl19=> ?_
      iterate 4 refine w_ ?_
      refine lp0 ((Qr c0.size).length) (fun m=>⟨[(1,lf (.dat (.sl 5 .u8) more)),(12,lf (.dat (.sl 9 .str) xl)),(13,lf (.dat (.sl 3 .int) (Xt xl))),(17,lI (c0.size:Int)),(110,lf (.dat (.sl 9 .str) (Qr c0.size))),(111,lI ((Qr c0.size).length:Int)),(112,lI (m:Int))],[]⟩) ?_ fun m hk20=> ?_
      · exact Wk.of [] rfl ⟨rfl,rfl,rfl,rfl,rfl,rfl,rfl,trivial⟩ trivial rfl rfl
      iterate 4 refine w_ ?_
      cases hb21:(decide ((m:Int) < ((Qr c0.size).length:Int)))
      ·have hb21':=ab hb21
       refine w_ ?_
       refine Qi ?_
       refine (?_:AC _ _ _ _ _)
       iterate 2 refine w_ ?_
       refine Q4 5 [] (Z0 more) Uo e1_ trivial rfl (fun _=>rfl) (fun _=>trivial) (nlr rfl) fun xn hxn=> ?_
       iterate 4 refine w_ ?_
       refine lc (xal 5 (.pr (.sl 203 (.pr .str .int)) (.pr (.sl 9 .str) (.sl 136 (.pr .int (.pr .int (.pr .bool .int)))))) Yr) ?_
       iterate 8 refine w_ ?_
       refine lc (dK (Yu xn.1 xn.2.1 xn.2.2) Uu) ?_
       iterate 10 refine w_ ?_
       refine lc (dK (Ys xn.1 xn.2.1 xn.2.2) UJ) ?_
       iterate 8 refine w_ ?_
       refine Q4 6 [] (Zs more) UF e1_ trivial rfl (fun _=>rfl) (fun _=>trivial) (nlr rfl) fun xo hxo=> ?_
       iterate 3 refine w_ ?_
       refine lc (xal 6 (.pr (.sl 9 .str) (.sl 9 .str)) Z2)<|lc (xal 7 (.pr (.sl 9 .str) (.sl 9 .str)) Z2) ?_
       iterate 3 refine w_ ?_
       cases hb26:((nvB xn.1 xn.2.1 xn.2.2)==(nvB xn.1 xn.2.1 xn.2.2))
       ·apply dW (i2 189 _ _ (io 191 (lB false) :: i9 192 _ _ _ _ _ _ _ _ _ (i5 201 _ _ _ _ _ [io 4 _]))) [0,1,0,0,0,16,0,0,0,0,512,0,3584,7680,0,0,0,0]
        iterate 2 refine z_ ?_
        refine zz (fun _ h_=>ac (QA (hb26) (QG (h_.v rfl) (h_.v rfl) rfl Zc)) rfl) ?_
        iterate 15 refine z_ ?_
        exact zN
        refine Qb<|fqB hO ?_
        first | rfl | (exfalso; omega) | (exfalso; have h_:=hfl (by assumption); have h2_:=(by assumption:(_==_)=false); rw[h_] at h2_; simp at h2_; done) | (simp; done) | (exfalso; simp_all; done)
       ·cases hb27:((nvV xn.1 xn.2.1 xn.2.2)==(nvV xn.1 xn.2.1 xn.2.2))
        ·apply dW (i2 189 _ _ (io 191 (lB true) :: i3 192 _ _ _ (io 195 (lB false) :: i9 196 _ _ _ _ _ _ _ _ _ [io 205 _,io 4 _]))) [0,1,0,0,0,16,0,0,0,0,512,0,3584,7680,0,0,0,0]
         iterate 2 refine z_ ?_
         refine zz (fun _ h_=>ac (QA (hb26) (QG (h_.v rfl) (h_.v rfl) rfl Zc)) rfl) ?_
         iterate 3 refine z_ ?_
         refine zz (fun _ h_=>day rfl (h_.k rfl) (QA (hb27) (QG (h_.v rfl) (h_.v rfl) rfl Zc)) rfl) ?_
         iterate 11 refine z_ ?_
         exact zN
         refine Qb<|fqB hO ?_
         first | rfl | (exfalso; omega) | (exfalso; have h_:=hfl (by assumption); have h2_:=(by assumption:(_==_)=false); rw[h_] at h2_; simp at h2_; done) | (simp; done) | (exfalso; simp_all; done)
        ·apply dW (i2 189 _ _ (io 191 (lB true) :: i3 192 _ _ _ (io 195 (lB true) :: i4 196 _ _ _ _ (io 200 (lB (decide (xo.1.1=xo.2.1∧xo.1.2=xo.2.2))) :: i2 201 _ _ [io 203 (lB (decide (xo.1.1=xo.2.1∧xo.1.2=xo.2.2))),io 204 (lB ((decide (xo.1.1=xo.2.1∧xo.1.2=xo.2.2))==(decide (xo.1.1=xo.2.1∧xo.1.2=xo.2.2)))),io 205 _,io 4 _])))) [0,1,0,0,0,16,0,0,0,0,512,0,3584,7680,0,0,0,0]
         iterate 2 refine z_ ?_
         refine zz (fun _ h_=>ac (QA (hb26) (QG (h_.v rfl) (h_.v rfl) rfl Zc)) rfl) ?_
         iterate 3 refine z_ ?_
         refine zz (fun _ h_=>day rfl (h_.k rfl) (QA (hb27) (QG (h_.v rfl) (h_.v rfl) rfl Zc)) rfl) ?_
         iterate 4 refine z_ ?_
         refine zz (fun _ h_=>day rfl (h_.k rfl) (dK (ZQ xo.1 xo.2) Uq) rfl) ?_
         iterate 2 refine z_ ?_
         refine zz (fun _ h_=>day rfl (h_.k rfl) (dK (ZP xo.1 xo.2) UK) rfl) ?_
         refine zz (fun _ h_=>day rfl (h_.k rfl) (QG (h_.v rfl) (h_.v rfl) rfl Zc) rfl) ?_
         iterate 2 refine z_ ?_
         exact zN
         refine Qb<|fqB hO ?_
         first | rfl | (exfalso; omega) | (exfalso; have h_:=hfl (by assumption); have h2_:=(by assumption:(_==_)=false); rw[h_] at h2_; simp at h2_; done) | (simp; done) | (exfalso; simp_all; done)
      ·have hb21':=ae hb21
       iterate 5 refine w_ ?_
       obtain ⟨cx,hx29⟩:∃z,(Qr c0.size)[m]? =some z:=⟨_,aa (by omega)⟩
       have hxm:=ao hx29
       have hxs:=Z8 hxm
       iterate 8 refine w_ ?_
       refine lp0 c0.size (fun i=>⟨[(1,lf (.dat (.sl 5 .u8) more)),(12,lf (.dat (.sl 9 .str) xl)),(13,lf (.dat (.sl 3 .int) (Xt xl))),(17,lI (c0.size:Int)),(21,lf (dS cx)),(22,lI (i:Int)),(110,lf (.dat (.sl 9 .str) (Qr c0.size))),(111,lI ((Qr c0.size).length:Int)),(112,lI (m:Int)),(113,lB true),(114,lf (.elt .str cx 0)),(115,lf (dS cx))],[]⟩) ?_ fun i hk30=> ?_
       · exact Wk.of [] rfl ⟨rfl,rfl,rfl,rfl,rfl,rfl,rfl,rfl,rfl,rfl,rfl,rfl,trivial⟩ trivial rfl rfl
       iterate 6 refine w_ ?_
       cases hb31:(decide ((i:Int) < (c0.size:Int)))
       ·have hb31':=ab hb31
        refine w_ ?_
        refine Qi ?_
        refine (?_:AC _ _ _ _ _)
        iterate 3 refine w_ ?_
        refine Qd ?_
        refine l0_ ?_
        exact Wk.of [] rfl ⟨rfl,rfl,rfl,rfl,rfl,rfl,rfl,trivial⟩ trivial rfl rfl
       ·have hb31':=ae hb31
        iterate 11 refine w_ ?_
        obtain ⟨c32,hc33⟩:∃z,cx[((i:Int)).toNat]? =some z:=⟨_,b5 _ _ (by omega)⟩
        refine w_ ?_
        refine lc (Zw (Qa rfl) (QK 49 rfl) rfl) ?_
        refine w_ ?_
        cases hb34:(decide (c32=49))
        ·have hb34':=ab hb34
         iterate 5 refine w_ ?_
         refine lc (dK (QV xl cx) Y7) ?_
         iterate 6 refine w_ ?_
         apply dW (i3 132 _ _ _ (io 135 (lf (dS (cx.extract 0 ((i:Int)).toNat))) :: io 136 _ :: io 137 (lf (dS ((cx.extract 0 ((i:Int)).toNat)++(⟨#[49]⟩:ByteArray)))) :: i3 138 _ _ _ (io 141 (lf (dS (cx.extract ((i:Int)+1).toNat cx.size))) :: io 142 (lf (dS (((cx.extract 0 ((i:Int)).toNat)++(⟨#[49]⟩:ByteArray))++(cx.extract ((i:Int)+1).toNat cx.size)))) :: io 143 (PV.tup [(false,[dB (ccV xl (((cx.extract 0 ((i:Int)).toNat)++(⟨#[49]⟩:ByteArray))++(cx.extract ((i:Int)+1).toNat cx.size)))]),(false,[dB (decide (ccP xl (((cx.extract 0 ((i:Int)).toNat)++(⟨#[49]⟩:ByteArray))++(cx.extract ((i:Int)+1).toNat cx.size))))])]) :: io 131 _ :: i2 144 _ _ (i2 26 _ _ [])))) [0,1,3,1,15,1,63,127,127,63,1,0,0,0,8192,16384,0]
         iterate 3 refine z_ ?_
         refine zz (fun _ h_=>ac (show Does _ _ _ _ (St.put _ 135 (lf (dS (cx.extract 0 ((i:Int)).toNat)))) from Qw (l:=none) (h:=(some (i:Int))) (h_.v rfl) (by exact trivial) (by exact (h_.v rfl)) QR rfl (by first | omega | (simp only[ai,ah]; omega)) (by first | omega | (simp only[ai,ah]; omega)) (by first | omega | (simp only[ai,ah]; omega))) rfl) ?_
         refine z_ ?_
         refine zz (fun _ h_=>ac (QH (h_.v rfl) (h_.v rfl) rfl (by first | omega | (simp only[aK,aL,ZB]; omega))) rfl) ?_
         iterate 3 refine z_ ?_
         refine zz (fun _ h_=>ac (show Does _ _ _ _ (St.put _ 141 (lf (dS (cx.extract ((i:Int)+1).toNat cx.size)))) from Qw (l:=(some ((i:Int)+1))) (h:=none) (h_.v rfl) (by exact (h_.v rfl)) (by exact trivial) QR rfl (by first | omega | (simp only[ai,ah]; omega)) (by first | omega | (simp only[ai,ah]; omega)) (by first | omega | (simp only[ai,ah]; omega))) rfl)<|zz (fun _ h_=>ac (QH (h_.v rfl) (h_.v rfl) rfl (by first | omega | (simp only[aK,aL,ZB]; omega))) rfl) ?_
         refine zz (fun _ h_=>ac (dK (QV xl (((cx.extract 0 ((i:Int)).toNat)++(⟨#[49]⟩:ByteArray))++(cx.extract ((i:Int)+1).toNat cx.size))) Y7) rfl) ?_
         iterate 5 refine z_ ?_
         exact zN
         refine Zl ?_
         have hfl:¬((i:Int)∈Xt xl)→(ccV xl cx)=(ccV xl (((cx.extract 0 ((i:Int)).toNat)++(⟨#[49]⟩:ByteArray))++(cx.extract ((i:Int)+1).toNat cx.size))):=fun g=>Qae hS hc0 hxm (by omega) (by omega) (by first | exact XX.1 | exact XY.1) (by first | exact XX.2 | exact XY.2) g
         rw[show (decide (ccP xl cx))=true from aJ (Qbx hC hxm)]
         rw[show (decide (ccP xl (((cx.extract 0 ((i:Int)).toNat)++(⟨#[49]⟩:ByteArray))++(cx.extract ((i:Int)+1).toNat cx.size))))=true from aJ (Qax hC hxm (i:=(i:Int)) (by omega) (by omega) (by first | exact XX.1 | exact XY.1) (by first | exact XX.2 | exact XY.2))]
         iterate 10 refine w_ ?_
         refine lgy rfl rfl (dK (Wz (Xt xl) (i:Int)) UB) ?_
         iterate 2 refine w_ ?_
         cases hb35:(decide ((i:Int)∈(Xt xl)))
         ·have hb35':=ab hb35
          iterate 2 refine w_ ?_
          refine lgy rfl rfl (ZI (Qa rfl) (Qa rfl) rfl Zc) ?_
          iterate 3 refine w_ ?_
          cases hb36:((ccV xl cx)==(ccV xl (((cx.extract 0 ((i:Int)).toNat)++(⟨#[49]⟩:ByteArray))++(cx.extract ((i:Int)+1).toNat cx.size))))
          ·iterate 4 refine w_ ?_
           refine Qb<|fqB hO ?_
           first | rfl | (exfalso; omega) | (exfalso; have h_:=hfl (by assumption); have h2_:=(by assumption:(_==_)=false); rw[h_] at h2_; simp at h2_; done) | (simp; done) | (exfalso; simp_all; done)
          ·refine w_ ?_
           refine AC.skip ?_
           refine (?_:AC _ _ _ _ _)
           iterate 4 refine w_ ?_
           refine Qd ?_
           refine l0_ ?_
           exact Wk.of [] rfl ⟨rfl,rfl,rfl,rfl,rfl,rfl,rfl,rfl,rfl,rfl,rfl,rfl,trivial⟩ trivial rfl rfl
         ·have hb35':=ae hb35
          iterate 7 refine w_ ?_
          refine AC.skip ?_
          refine (?_:AC _ _ _ _ _)
          iterate 4 refine w_ ?_
          refine Qd ?_
          refine l0_ ?_
          exact Wk.of [] rfl ⟨rfl,rfl,rfl,rfl,rfl,rfl,rfl,rfl,rfl,rfl,rfl,rfl,trivial⟩ trivial rfl rfl
        ·have hb34':=ae hb34
         iterate 7 refine w_ ?_
         refine lc (dK (QV xl cx) Y7) ?_
         iterate 6 refine w_ ?_
         apply dW (i3 132 _ _ _ (io 135 (lf (dS (cx.extract 0 ((i:Int)).toNat))) :: io 136 _ :: io 137 (lf (dS ((cx.extract 0 ((i:Int)).toNat)++(⟨#[48]⟩:ByteArray)))) :: i3 138 _ _ _ (io 141 (lf (dS (cx.extract ((i:Int)+1).toNat cx.size))) :: io 142 (lf (dS (((cx.extract 0 ((i:Int)).toNat)++(⟨#[48]⟩:ByteArray))++(cx.extract ((i:Int)+1).toNat cx.size)))) :: io 143 (PV.tup [(false,[dB (ccV xl (((cx.extract 0 ((i:Int)).toNat)++(⟨#[48]⟩:ByteArray))++(cx.extract ((i:Int)+1).toNat cx.size)))]),(false,[dB (decide (ccP xl (((cx.extract 0 ((i:Int)).toNat)++(⟨#[48]⟩:ByteArray))++(cx.extract ((i:Int)+1).toNat cx.size))))])]) :: io 131 _ :: i2 144 _ _ (i2 26 _ _ [])))) [0,1,3,1,15,1,63,127,127,63,1,0,0,0,8192,16384,0]
         iterate 3 refine z_ ?_
         refine zz (fun _ h_=>ac (show Does _ _ _ _ (St.put _ 135 (lf (dS (cx.extract 0 ((i:Int)).toNat)))) from Qw (l:=none) (h:=(some (i:Int))) (h_.v rfl) (by exact trivial) (by exact (h_.v rfl)) QR rfl (by first | omega | (simp only[ai,ah]; omega)) (by first | omega | (simp only[ai,ah]; omega)) (by first | omega | (simp only[ai,ah]; omega))) rfl) ?_
         refine z_ ?_
         refine zz (fun _ h_=>ac (QH (h_.v rfl) (h_.v rfl) rfl (by first | omega | (simp only[aK,aL,ZB]; omega))) rfl) ?_
         iterate 3 refine z_ ?_
         refine zz (fun _ h_=>ac (show Does _ _ _ _ (St.put _ 141 (lf (dS (cx.extract ((i:Int)+1).toNat cx.size)))) from Qw (l:=(some ((i:Int)+1))) (h:=none) (h_.v rfl) (by exact (h_.v rfl)) (by exact trivial) QR rfl (by first | omega | (simp only[ai,ah]; omega)) (by first | omega | (simp only[ai,ah]; omega)) (by first | omega | (simp only[ai,ah]; omega))) rfl)<|zz (fun _ h_=>ac (QH (h_.v rfl) (h_.v rfl) rfl (by first | omega | (simp only[aK,aL,ZB]; omega))) rfl) ?_
         refine zz (fun _ h_=>ac (dK (QV xl (((cx.extract 0 ((i:Int)).toNat)++(⟨#[48]⟩:ByteArray))++(cx.extract ((i:Int)+1).toNat cx.size))) Y7) rfl) ?_
         iterate 5 refine z_ ?_
         exact zN
         refine Zl ?_
         have hfl:¬((i:Int)∈Xt xl)→(ccV xl cx)=(ccV xl (((cx.extract 0 ((i:Int)).toNat)++(⟨#[48]⟩:ByteArray))++(cx.extract ((i:Int)+1).toNat cx.size))):=fun g=>Qae hS hc0 hxm (by omega) (by omega) (by first | exact XX.1 | exact XY.1) (by first | exact XX.2 | exact XY.2) g
         rw[show (decide (ccP xl cx))=true from aJ (Qbx hC hxm)]
         rw[show (decide (ccP xl (((cx.extract 0 ((i:Int)).toNat)++(⟨#[48]⟩:ByteArray))++(cx.extract ((i:Int)+1).toNat cx.size))))=true from aJ (Qax hC hxm (i:=(i:Int)) (by omega) (by omega) (by first | exact XX.1 | exact XY.1) (by first | exact XX.2 | exact XY.2))]
         iterate 10 refine w_ ?_
         refine lgy rfl rfl (dK (Wz (Xt xl) (i:Int)) UB) ?_
         iterate 2 refine w_ ?_
         cases hb37:(decide ((i:Int)∈(Xt xl)))
         ·have hb37':=ab hb37
          iterate 2 refine w_ ?_
          refine lgy rfl rfl (ZI (Qa rfl) (Qa rfl) rfl Zc) ?_
          iterate 3 refine w_ ?_
          cases hb38:((ccV xl cx)==(ccV xl (((cx.extract 0 ((i:Int)).toNat)++(⟨#[48]⟩:ByteArray))++(cx.extract ((i:Int)+1).toNat cx.size))))
          ·iterate 4 refine w_ ?_
           refine Qb<|fqB hO ?_
           first | rfl | (exfalso; omega) | (exfalso; have h_:=hfl (by assumption); have h2_:=(by assumption:(_==_)=false); rw[h_] at h2_; simp at h2_; done) | (simp; done) | (exfalso; simp_all; done)
          ·refine w_ ?_
           refine AC.skip ?_
           refine (?_:AC _ _ _ _ _)
           iterate 4 refine w_ ?_
           refine Qd ?_
           refine l0_ ?_
           exact Wk.of [] rfl ⟨rfl,rfl,rfl,rfl,rfl,rfl,rfl,rfl,rfl,rfl,rfl,rfl,trivial⟩ trivial rfl rfl
         ·have hb37':=ae hb37
          iterate 7 refine w_ ?_
          refine AC.skip ?_
          refine (?_:AC _ _ _ _ _)
          iterate 4 refine w_ ?_
          refine Qd ?_
          refine l0_ ?_
          exact Wk.of [] rfl ⟨rfl,rfl,rfl,rfl,rfl,rfl,rfl,rfl,rfl,rfl,rfl,rfl,trivial⟩ trivial rfl rfl
   ·iterate 2 refine w_ ?_
    refine alL 62 fun hl39=> ?_
    iterate 4 refine w_ ?_
    refine lp0 ((unrV xc).length) (fun k=>⟨[(1,lf (.dat (.sl 5 .u8) more)),(5,lP 0 0),(62,lf (.dat (.sl 9 .str) (unrV xc))),(63,lI ((unrV xc).length:Int)),(64,lI (k:Int))],[bx 0 28 [.dat (.sl 203 (.pr .str .int)) xc.1, .dat (.sl 9 .str) xc.2.1, .dat (.sl 136 (.pr .int (.pr .int (.pr .bool .int)))) xc.2.2]]⟩) ?_ fun k hk40=> ?_
    · exact Wk.of [] rfl ⟨rfl,rfl,rfl,rfl,rfl,trivial⟩ ⟨rfl,trivial⟩ rfl rfl
    iterate 4 refine w_ ?_
    cases hb41:(decide ((k:Int) < ((unrV xc).length:Int)))
    ·have hb41':=ab hb41
     refine w_ ?_
     refine Qi ?_
     refine (?_:AC _ _ _ _ _)
     iterate 2 refine w_ ?_
     refine Q4 8 [] (XZ more).frozenX Qcy e1_ trivial rfl (fun _=>rfl) (fun _=>trivial) (nlr rfl) fun xl hxl=> ?_
     iterate 4 refine w_ ?_
     refine lc (dK (VE xl).frozenG Qcp) ?_
     iterate 8 refine w_ ?_
     refine lc (dK (VG xl).frozenG QcO) ?_
     iterate 10 refine w_ ?_
     refine lc (ZI (Qa rfl) (Qa rfl) rfl Zc) ?_
     refine w_ ?_
     cases hb44:((decide (YT xl))==(decide (YT xl)))
     ·iterate 10 refine w_ ?_
      refine Qb<|fqB hO ?_
      first | rfl | (exfalso; omega) | (exfalso; have h_:=hfl (by assumption); have h2_:=(by assumption:(_==_)=false); rw[h_] at h2_; simp at h2_; done) | (simp; done) | (exfalso; simp_all; done)
     ·iterate 2 refine w_ ?_
      refine lgy rfl rfl (dK (W6 (Xt xl) (Xt xl) rfl) QcJ) ?_
      iterate 9 refine w_ ?_
      refine cd_ (fun hb45 hb45'=> ?_) fun hb45 hb45'=> ?_
      ·iterate 3 refine w_ ?_
       refine Q4 8 [] (Z0 more) Uo e1_ trivial rfl (fun _=>rfl) (fun _=>trivial) (nlr rfl) fun xn hxn=> ?_
       iterate 4 refine w_ ?_
       refine lc (xal 8 (.pr (.sl 203 (.pr .str .int)) (.pr (.sl 9 .str) (.sl 136 (.pr .int (.pr .int (.pr .bool .int)))))) Yr) ?_
       iterate 8 refine w_ ?_
       refine lc (dK (Yu xn.1 xn.2.1 xn.2.2) Uu) ?_
       iterate 10 refine w_ ?_
       refine lc (dK (Ys xn.1 xn.2.1 xn.2.2) UJ) ?_
       iterate 8 refine w_ ?_
       refine Q4 9 [] (Zs more) UF e1_ trivial rfl (fun _=>rfl) (fun _=>trivial) (nlr rfl) fun xo hxo=> ?_
       iterate 3 refine w_ ?_
       refine lc (xal 9 (.pr (.sl 9 .str) (.sl 9 .str)) Z2)<|lc (xal 10 (.pr (.sl 9 .str) (.sl 9 .str)) Z2) ?_
       iterate 3 refine w_ ?_
       cases hb50:((nvB xn.1 xn.2.1 xn.2.2)==(nvB xn.1 xn.2.1 xn.2.2))
       ·apply dW (i2 189 _ _ (io 191 (lB false) :: i9 192 _ _ _ _ _ _ _ _ _ (i5 201 _ _ _ _ _ [io 4 _]))) [0,1,0,0,0,16,0,0,0,0,512,0,3584,7680,0,0,0,0]
        iterate 2 refine z_ ?_
        refine zz (fun _ h_=>ac (QA (hb50) (QG (h_.v rfl) (h_.v rfl) rfl Zc)) rfl) ?_
        iterate 15 refine z_ ?_
        exact zN
        refine Qb<|fqB hO ?_
        first | rfl | (exfalso; omega) | (exfalso; have h_:=hfl (by assumption); have h2_:=(by assumption:(_==_)=false); rw[h_] at h2_; simp at h2_; done) | (simp; done) | (exfalso; simp_all; done)
       ·cases hb51:((nvV xn.1 xn.2.1 xn.2.2)==(nvV xn.1 xn.2.1 xn.2.2))
        ·apply dW (i2 189 _ _ (io 191 (lB true) :: i3 192 _ _ _ (io 195 (lB false) :: i9 196 _ _ _ _ _ _ _ _ _ [io 205 _,io 4 _]))) [0,1,0,0,0,16,0,0,0,0,512,0,3584,7680,0,0,0,0]
         iterate 2 refine z_ ?_
         refine zz (fun _ h_=>ac (QA (hb50) (QG (h_.v rfl) (h_.v rfl) rfl Zc)) rfl) ?_
         iterate 3 refine z_ ?_
         refine zz (fun _ h_=>day rfl (h_.k rfl) (QA (hb51) (QG (h_.v rfl) (h_.v rfl) rfl Zc)) rfl) ?_
         iterate 11 refine z_ ?_
         exact zN
         refine Qb<|fqB hO ?_
         first | rfl | (exfalso; omega) | (exfalso; have h_:=hfl (by assumption); have h2_:=(by assumption:(_==_)=false); rw[h_] at h2_; simp at h2_; done) | (simp; done) | (exfalso; simp_all; done)
        ·apply dW (i2 189 _ _ (io 191 (lB true) :: i3 192 _ _ _ (io 195 (lB true) :: i4 196 _ _ _ _ (io 200 (lB (decide (xo.1.1=xo.2.1∧xo.1.2=xo.2.2))) :: i2 201 _ _ [io 203 (lB (decide (xo.1.1=xo.2.1∧xo.1.2=xo.2.2))),io 204 (lB ((decide (xo.1.1=xo.2.1∧xo.1.2=xo.2.2))==(decide (xo.1.1=xo.2.1∧xo.1.2=xo.2.2)))),io 205 _,io 4 _])))) [0,1,0,0,0,16,0,0,0,0,512,0,3584,7680,0,0,0,0]
         iterate 2 refine z_ ?_
         refine zz (fun _ h_=>ac (QA (hb50) (QG (h_.v rfl) (h_.v rfl) rfl Zc)) rfl) ?_
         iterate 3 refine z_ ?_
         refine zz (fun _ h_=>day rfl (h_.k rfl) (QA (hb51) (QG (h_.v rfl) (h_.v rfl) rfl Zc)) rfl) ?_
         iterate 4 refine z_ ?_
         refine zz (fun _ h_=>day rfl (h_.k rfl) (dK (ZQ xo.1 xo.2) Uq) rfl) ?_
         iterate 2 refine z_ ?_
         refine zz (fun _ h_=>day rfl (h_.k rfl) (dK (ZP xo.1 xo.2) UK) rfl) ?_
         refine zz (fun _ h_=>day rfl (h_.k rfl) (QG (h_.v rfl) (h_.v rfl) rfl Zc) rfl) ?_
         iterate 2 refine z_ ?_
         exact zN
         refine Qb<|fqB hO ?_
         first | rfl | (exfalso; omega) | (exfalso; have h_:=hfl (by assumption); have h2_:=(by assumption:(_==_)=false); rw[h_] at h2_; simp at h2_; done) | (simp; done) | (exfalso; simp_all; done)
      ·refine Zl ?_
       have hS:=(by assumption:YT xl)
       have hl0:=hS.1
       have hds:(⟨#[45,45,45,45,45,45,45,45]⟩:ByteArray).size=8:=rfl
       iterate 2 refine w_ ?_
       obtain ⟨c0,hx53⟩:∃z,xl[0]? =some z:=⟨_,aa (by omega)⟩
       have hc0:=hx53
       iterate 2 refine w_ ?_
       refine alS 98 fun hl54=> ?_
       refine lc (QI (Qa rfl) rfl QR) ?_
       iterate 2 refine w_ ?_
       refine Zl ?_
       have hC:Zp (c0.size:Int) xl:=by rw[← Qaj hc0]; exact hS.2
       have h8:=Qha hC
       have h1:1≤c0.size:=by have:=hC.1; omega
       iterate 3 refine w_ ?_
       refine lc (show Does _ _ _ _ (St.put _ 103 (lf (dS ((⟨#[45,45,45,45,45,45,45,45]⟩:ByteArray).extract 0 ((c0.size:Int)).toNat)))) from Qw (l:=none) (h:=(some (c0.size:Int))) (Evl.str rfl) (by exact trivial) (by exact (Qa rfl)) QR rfl (by first | omega | (simp only[ai,ah]; omega)) (by first | omega | (simp only[ai,ah]; omega)) (by first | omega | (simp only[ai,ah]; omega))) ?_
       refine lc (dBs 11 (e:= .str) ZZ) ?_
       refine AL.wk (Wk.freeze (i:=104) (q:=11) rfl rfl) ?_
       refine lc (dK (W2 (c0.size:Int) ([(⟨#[45,45,45,45,45,45,45,45]⟩:ByteArray).extract 0 ((c0.size:Int)).toNat])).frozenG Qci) ?_
       iterate 7 refine w_ ?_
       refine Zl ?_
       rw[show (decide (Zp (c0.size:Int) ([(⟨#[45,45,45,45,45,45,45,45]⟩:ByteArray).extract 0 ((c0.size:Int)).toNat])))=true from aJ (by simpa using Qac h1 h8)]
       rw[show (if Zp (c0.size:Int) ([(⟨#[45,45,45,45,45,45,45,45]⟩:ByteArray).extract 0 ((c0.size:Int)).toNat]) then Qeh (c0.size:Int) ([(⟨#[45,45,45,45,45,45,45,45]⟩:ByteArray).extract 0 ((c0.size:Int)).toNat]) else [])=Qr c0.size from (if_pos (by simpa using Qac h1 h8)).trans (by simpa using QhW h8)]
       iterate 8 refine w_ ?_
       refine alL 110 fun hl55=> ?_
       iterate 4 refine w_ ?_
       refine lp0 ((Qr c0.size).length) (fun m=>⟨[(1,lf (.dat (.sl 5 .u8) more)),(12,lf (.dat (.sl 9 .str) xl)),(13,lf (.dat (.sl 3 .int) (Xt xl))),(17,lI (c0.size:Int)),(110,lf (.dat (.sl 9 .str) (Qr c0.size))),(111,lI ((Qr c0.size).length:Int)),(112,lI (m:Int))],[]⟩) ?_ fun m hk56=> ?_
       · exact Wk.of [] rfl ⟨rfl,rfl,rfl,rfl,rfl,rfl,rfl,trivial⟩ trivial rfl rfl
       iterate 4 refine w_ ?_
       cases hb57:(decide ((m:Int) < ((Qr c0.size).length:Int)))
       ·have hb57':=ab hb57
        refine w_ ?_
        refine Qi ?_
        refine (?_:AC _ _ _ _ _)
        iterate 2 refine w_ ?_
        refine Q4 12 [] (Z0 more) Uo e1_ trivial rfl (fun _=>rfl) (fun _=>trivial) (nlr rfl) fun xn hxn=> ?_
        iterate 4 refine w_ ?_
        refine lc (xal 12 (.pr (.sl 203 (.pr .str .int)) (.pr (.sl 9 .str) (.sl 136 (.pr .int (.pr .int (.pr .bool .int)))))) Yr) ?_
        iterate 8 refine w_ ?_
        refine lc (dK (Yu xn.1 xn.2.1 xn.2.2) Uu) ?_
        iterate 10 refine w_ ?_
        refine lc (dK (Ys xn.1 xn.2.1 xn.2.2) UJ) ?_
        iterate 8 refine w_ ?_
        refine Q4 13 [] (Zs more) UF e1_ trivial rfl (fun _=>rfl) (fun _=>trivial) (nlr rfl) fun xo hxo=> ?_
        iterate 3 refine w_ ?_
        refine lc (xal 13 (.pr (.sl 9 .str) (.sl 9 .str)) Z2)<|lc (xal 14 (.pr (.sl 9 .str) (.sl 9 .str)) Z2) ?_
        iterate 3 refine w_ ?_
        cases hb62:((nvB xn.1 xn.2.1 xn.2.2)==(nvB xn.1 xn.2.1 xn.2.2))
        ·apply dW (i2 189 _ _ (io 191 (lB false) :: i9 192 _ _ _ _ _ _ _ _ _ (i5 201 _ _ _ _ _ [io 4 _]))) [0,1,0,0,0,16,0,0,0,0,512,0,3584,7680,0,0,0,0]
         iterate 2 refine z_ ?_
         refine zz (fun _ h_=>ac (QA (hb62) (QG (h_.v rfl) (h_.v rfl) rfl Zc)) rfl) ?_
         iterate 15 refine z_ ?_
         exact zN
         refine Qb<|fqB hO ?_
         first | rfl | (exfalso; omega) | (exfalso; have h_:=hfl (by assumption); have h2_:=(by assumption:(_==_)=false); rw[h_] at h2_; simp at h2_; done) | (simp; done) | (exfalso; simp_all; done)
        ·cases hb63:((nvV xn.1 xn.2.1 xn.2.2)==(nvV xn.1 xn.2.1 xn.2.2))
         ·apply dW (i2 189 _ _ (io 191 (lB true) :: i3 192 _ _ _ (io 195 (lB false) :: i9 196 _ _ _ _ _ _ _ _ _ [io 205 _,io 4 _]))) [0,1,0,0,0,16,0,0,0,0,512,0,3584,7680,0,0,0,0]
          iterate 2 refine z_ ?_
          refine zz (fun _ h_=>ac (QA (hb62) (QG (h_.v rfl) (h_.v rfl) rfl Zc)) rfl) ?_
          iterate 3 refine z_ ?_
          refine zz (fun _ h_=>day rfl (h_.k rfl) (QA (hb63) (QG (h_.v rfl) (h_.v rfl) rfl Zc)) rfl) ?_
          iterate 11 refine z_ ?_
          exact zN
          refine Qb<|fqB hO ?_
          first | rfl | (exfalso; omega) | (exfalso; have h_:=hfl (by assumption); have h2_:=(by assumption:(_==_)=false); rw[h_] at h2_; simp at h2_; done) | (simp; done) | (exfalso; simp_all; done)
         ·apply dW (i2 189 _ _ (io 191 (lB true) :: i3 192 _ _ _ (io 195 (lB true) :: i4 196 _ _ _ _ (io 200 (lB (decide (xo.1.1=xo.2.1∧xo.1.2=xo.2.2))) :: i2 201 _ _ [io 203 (lB (decide (xo.1.1=xo.2.1∧xo.1.2=xo.2.2))),io 204 (lB ((decide (xo.1.1=xo.2.1∧xo.1.2=xo.2.2))==(decide (xo.1.1=xo.2.1∧xo.1.2=xo.2.2)))),io 205 _,io 4 _])))) [0,1,0,0,0,16,0,0,0,0,512,0,3584,7680,0,0,0,0]
          iterate 2 refine z_ ?_
          refine zz (fun _ h_=>ac (QA (hb62) (QG (h_.v rfl) (h_.v rfl) rfl Zc)) rfl) ?_
          iterate 3 refine z_ ?_
          refine zz (fun _ h_=>day rfl (h_.k rfl) (QA (hb63) (QG (h_.v rfl) (h_.v rfl) rfl Zc)) rfl) ?_
          iterate 4 refine z_ ?_
          refine zz (fun _ h_=>day rfl (h_.k rfl) (dK (ZQ xo.1 xo.2) Uq) rfl) ?_
          iterate 2 refine z_ ?_
          refine zz (fun _ h_=>day rfl (h_.k rfl) (dK (ZP xo.1 xo.2) UK) rfl) ?_
          refine zz (fun _ h_=>day rfl (h_.k rfl) (QG (h_.v rfl) (h_.v rfl) rfl Zc) rfl) ?_
          iterate 2 refine z_ ?_
          exact zN
          refine Qb<|fqB hO ?_
          first | rfl | (exfalso; omega) | (exfalso; have h_:=hfl (by assumption); have h2_:=(by assumption:(_==_)=false); rw[h_] at h2_; simp at h2_; done) | (simp; done) | (exfalso; simp_all; done)
       ·have hb57':=ae hb57
        iterate 5 refine w_ ?_
        obtain ⟨cx,hx65⟩:∃z,(Qr c0.size)[m]? =some z:=⟨_,aa (by omega)⟩
        have hxm:=ao hx65
        have hxs:=Z8 hxm
        iterate 8 refine w_ ?_
        refine lp0 c0.size (fun i=>⟨[(1,lf (.dat (.sl 5 .u8) more)),(12,lf (.dat (.sl 9 .str) xl)),(13,lf (.dat (.sl 3 .int) (Xt xl))),(17,lI (c0.size:Int)),(21,lf (dS cx)),(22,lI (i:Int)),(110,lf (.dat (.sl 9 .str) (Qr c0.size))),(111,lI ((Qr c0.size).length:Int)),(112,lI (m:Int)),(113,lB true),(114,lf (.elt .str cx 0)),(115,lf (dS cx))],[]⟩) ?_ fun i hk66=> ?_
        · exact Wk.of [] rfl ⟨rfl,rfl,rfl,rfl,rfl,rfl,rfl,rfl,rfl,rfl,rfl,rfl,trivial⟩ trivial rfl rfl
        iterate 6 refine w_ ?_
        cases hb67:(decide ((i:Int) < (c0.size:Int)))
        ·have hb67':=ab hb67
         refine w_ ?_
         refine Qi ?_
         refine (?_:AC _ _ _ _ _)
         iterate 3 refine w_ ?_
         refine Qd ?_
         refine l0_ ?_
         exact Wk.of [] rfl ⟨rfl,rfl,rfl,rfl,rfl,rfl,rfl,trivial⟩ trivial rfl rfl
        ·have hb67':=ae hb67
         iterate 11 refine w_ ?_
         obtain ⟨c68,hc69⟩:∃z,cx[((i:Int)).toNat]? =some z:=⟨_,b5 _ _ (by omega)⟩
         refine w_ ?_
         refine lc (Zw (Qa rfl) (QK 49 rfl) rfl) ?_
         refine w_ ?_
         cases hb70:(decide (c68=49))
         ·have hb70':=ab hb70
          iterate 5 refine w_ ?_
          refine lc (dK (QV xl cx) Y7) ?_
          iterate 6 refine w_ ?_
          apply dW (i3 132 _ _ _ (io 135 (lf (dS (cx.extract 0 ((i:Int)).toNat))) :: io 136 _ :: io 137 (lf (dS ((cx.extract 0 ((i:Int)).toNat)++(⟨#[49]⟩:ByteArray)))) :: i3 138 _ _ _ (io 141 (lf (dS (cx.extract ((i:Int)+1).toNat cx.size))) :: io 142 (lf (dS (((cx.extract 0 ((i:Int)).toNat)++(⟨#[49]⟩:ByteArray))++(cx.extract ((i:Int)+1).toNat cx.size)))) :: io 143 (PV.tup [(false,[dB (ccV xl (((cx.extract 0 ((i:Int)).toNat)++(⟨#[49]⟩:ByteArray))++(cx.extract ((i:Int)+1).toNat cx.size)))]),(false,[dB (decide (ccP xl (((cx.extract 0 ((i:Int)).toNat)++(⟨#[49]⟩:ByteArray))++(cx.extract ((i:Int)+1).toNat cx.size))))])]) :: io 131 _ :: i2 144 _ _ (i2 26 _ _ [])))) [0,1,3,1,15,1,63,127,127,63,1,0,0,0,8192,16384,0]
          iterate 3 refine z_ ?_
          refine zz (fun _ h_=>ac (show Does _ _ _ _ (St.put _ 135 (lf (dS (cx.extract 0 ((i:Int)).toNat)))) from Qw (l:=none) (h:=(some (i:Int))) (h_.v rfl) (by exact trivial) (by exact (h_.v rfl)) QR rfl (by first | omega | (simp only[ai,ah]; omega)) (by first | omega | (simp only[ai,ah]; omega)) (by first | omega | (simp only[ai,ah]; omega))) rfl) ?_
          refine z_ ?_
          refine zz (fun _ h_=>ac (QH (h_.v rfl) (h_.v rfl) rfl (by first | omega | (simp only[aK,aL,ZB]; omega))) rfl) ?_
          iterate 3 refine z_ ?_
          refine zz (fun _ h_=>ac (show Does _ _ _ _ (St.put _ 141 (lf (dS (cx.extract ((i:Int)+1).toNat cx.size)))) from Qw (l:=(some ((i:Int)+1))) (h:=none) (h_.v rfl) (by exact (h_.v rfl)) (by exact trivial) QR rfl (by first | omega | (simp only[ai,ah]; omega)) (by first | omega | (simp only[ai,ah]; omega)) (by first | omega | (simp only[ai,ah]; omega))) rfl)<|zz (fun _ h_=>ac (QH (h_.v rfl) (h_.v rfl) rfl (by first | omega | (simp only[aK,aL,ZB]; omega))) rfl) ?_
          refine zz (fun _ h_=>ac (dK (QV xl (((cx.extract 0 ((i:Int)).toNat)++(⟨#[49]⟩:ByteArray))++(cx.extract ((i:Int)+1).toNat cx.size))) Y7) rfl) ?_
          iterate 5 refine z_ ?_
          exact zN
          refine Zl ?_
          have hfl:¬((i:Int)∈Xt xl)→(ccV xl cx)=(ccV xl (((cx.extract 0 ((i:Int)).toNat)++(⟨#[49]⟩:ByteArray))++(cx.extract ((i:Int)+1).toNat cx.size))):=fun g=>Qae hS hc0 hxm (by omega) (by omega) (by first | exact XX.1 | exact XY.1) (by first | exact XX.2 | exact XY.2) g
          rw[show (decide (ccP xl cx))=true from aJ (Qbx hC hxm)]
          rw[show (decide (ccP xl (((cx.extract 0 ((i:Int)).toNat)++(⟨#[49]⟩:ByteArray))++(cx.extract ((i:Int)+1).toNat cx.size))))=true from aJ (Qax hC hxm (i:=(i:Int)) (by omega) (by omega) (by first | exact XX.1 | exact XY.1) (by first | exact XX.2 | exact XY.2))]
          iterate 10 refine w_ ?_
          refine lgy rfl rfl (dK (Wz (Xt xl) (i:Int)) UB) ?_
          iterate 2 refine w_ ?_
          cases hb71:(decide ((i:Int)∈(Xt xl)))
          ·have hb71':=ab hb71
           iterate 2 refine w_ ?_
           refine lgy rfl rfl (ZI (Qa rfl) (Qa rfl) rfl Zc) ?_
           iterate 3 refine w_ ?_
           cases hb72:((ccV xl cx)==(ccV xl (((cx.extract 0 ((i:Int)).toNat)++(⟨#[49]⟩:ByteArray))++(cx.extract ((i:Int)+1).toNat cx.size))))
           ·iterate 4 refine w_ ?_
            refine Qb<|fqB hO ?_
            first | rfl | (exfalso; omega) | (exfalso; have h_:=hfl (by assumption); have h2_:=(by assumption:(_==_)=false); rw[h_] at h2_; simp at h2_; done) | (simp; done) | (exfalso; simp_all; done)
           ·refine w_ ?_
            refine AC.skip ?_
            refine (?_:AC _ _ _ _ _)
            iterate 4 refine w_ ?_
            refine Qd ?_
            refine l0_ ?_
            exact Wk.of [] rfl ⟨rfl,rfl,rfl,rfl,rfl,rfl,rfl,rfl,rfl,rfl,rfl,rfl,trivial⟩ trivial rfl rfl
          ·have hb71':=ae hb71
           iterate 7 refine w_ ?_
           refine AC.skip ?_
           refine (?_:AC _ _ _ _ _)
           iterate 4 refine w_ ?_
           refine Qd ?_
           refine l0_ ?_
           exact Wk.of [] rfl ⟨rfl,rfl,rfl,rfl,rfl,rfl,rfl,rfl,rfl,rfl,rfl,rfl,trivial⟩ trivial rfl rfl
         ·have hb70':=ae hb70
          iterate 7 refine w_ ?_
          refine lc (dK (QV xl cx) Y7) ?_
          iterate 6 refine w_ ?_
          apply dW (i3 132 _ _ _ (io 135 (lf (dS (cx.extract 0 ((i:Int)).toNat))) :: io 136 _ :: io 137 (lf (dS ((cx.extract 0 ((i:Int)).toNat)++(⟨#[48]⟩:ByteArray)))) :: i3 138 _ _ _ (io 141 (lf (dS (cx.extract ((i:Int)+1).toNat cx.size))) :: io 142 (lf (dS (((cx.extract 0 ((i:Int)).toNat)++(⟨#[48]⟩:ByteArray))++(cx.extract ((i:Int)+1).toNat cx.size)))) :: io 143 (PV.tup [(false,[dB (ccV xl (((cx.extract 0 ((i:Int)).toNat)++(⟨#[48]⟩:ByteArray))++(cx.extract ((i:Int)+1).toNat cx.size)))]),(false,[dB (decide (ccP xl (((cx.extract 0 ((i:Int)).toNat)++(⟨#[48]⟩:ByteArray))++(cx.extract ((i:Int)+1).toNat cx.size))))])]) :: io 131 _ :: i2 144 _ _ (i2 26 _ _ [])))) [0,1,3,1,15,1,63,127,127,63,1,0,0,0,8192,16384,0]
          iterate 3 refine z_ ?_
          refine zz (fun _ h_=>ac (show Does _ _ _ _ (St.put _ 135 (lf (dS (cx.extract 0 ((i:Int)).toNat)))) from Qw (l:=none) (h:=(some (i:Int))) (h_.v rfl) (by exact trivial) (by exact (h_.v rfl)) QR rfl (by first | omega | (simp only[ai,ah]; omega)) (by first | omega | (simp only[ai,ah]; omega)) (by first | omega | (simp only[ai,ah]; omega))) rfl) ?_
          refine z_ ?_
          refine zz (fun _ h_=>ac (QH (h_.v rfl) (h_.v rfl) rfl (by first | omega | (simp only[aK,aL,ZB]; omega))) rfl) ?_
          iterate 3 refine z_ ?_
          refine zz (fun _ h_=>ac (show Does _ _ _ _ (St.put _ 141 (lf (dS (cx.extract ((i:Int)+1).toNat cx.size)))) from Qw (l:=(some ((i:Int)+1))) (h:=none) (h_.v rfl) (by exact (h_.v rfl)) (by exact trivial) QR rfl (by first | omega | (simp only[ai,ah]; omega)) (by first | omega | (simp only[ai,ah]; omega)) (by first | omega | (simp only[ai,ah]; omega))) rfl)<|zz (fun _ h_=>ac (QH (h_.v rfl) (h_.v rfl) rfl (by first | omega | (simp only[aK,aL,ZB]; omega))) rfl) ?_
          refine zz (fun _ h_=>ac (dK (QV xl (((cx.extract 0 ((i:Int)).toNat)++(⟨#[48]⟩:ByteArray))++(cx.extract ((i:Int)+1).toNat cx.size))) Y7) rfl) ?_
          iterate 5 refine z_ ?_
          exact zN
          refine Zl ?_
          have hfl:¬((i:Int)∈Xt xl)→(ccV xl cx)=(ccV xl (((cx.extract 0 ((i:Int)).toNat)++(⟨#[48]⟩:ByteArray))++(cx.extract ((i:Int)+1).toNat cx.size))):=fun g=>Qae hS hc0 hxm (by omega) (by omega) (by first | exact XX.1 | exact XY.1) (by first | exact XX.2 | exact XY.2) g
          rw[show (decide (ccP xl cx))=true from aJ (Qbx hC hxm)]
          rw[show (decide (ccP xl (((cx.extract 0 ((i:Int)).toNat)++(⟨#[48]⟩:ByteArray))++(cx.extract ((i:Int)+1).toNat cx.size))))=true from aJ (Qax hC hxm (i:=(i:Int)) (by omega) (by omega) (by first | exact XX.1 | exact XY.1) (by first | exact XX.2 | exact XY.2))]
          iterate 10 refine w_ ?_
          refine lgy rfl rfl (dK (Wz (Xt xl) (i:Int)) UB) ?_
          iterate 2 refine w_ ?_
          cases hb73:(decide ((i:Int)∈(Xt xl)))
          ·have hb73':=ab hb73
           iterate 2 refine w_ ?_
           refine lgy rfl rfl (ZI (Qa rfl) (Qa rfl) rfl Zc) ?_
           iterate 3 refine w_ ?_
           cases hb74:((ccV xl cx)==(ccV xl (((cx.extract 0 ((i:Int)).toNat)++(⟨#[48]⟩:ByteArray))++(cx.extract ((i:Int)+1).toNat cx.size))))
           ·iterate 4 refine w_ ?_
            refine Qb<|fqB hO ?_
            first | rfl | (exfalso; omega) | (exfalso; have h_:=hfl (by assumption); have h2_:=(by assumption:(_==_)=false); rw[h_] at h2_; simp at h2_; done) | (simp; done) | (exfalso; simp_all; done)
           ·refine w_ ?_
            refine AC.skip ?_
            refine (?_:AC _ _ _ _ _)
            iterate 4 refine w_ ?_
            refine Qd ?_
            refine l0_ ?_
            exact Wk.of [] rfl ⟨rfl,rfl,rfl,rfl,rfl,rfl,rfl,rfl,rfl,rfl,rfl,rfl,trivial⟩ trivial rfl rfl
          ·have hb73':=ae hb73
           iterate 7 refine w_ ?_
           refine AC.skip ?_
           refine (?_:AC _ _ _ _ _)
           iterate 4 refine w_ ?_
           refine Qd ?_
           refine l0_ ?_
           exact Wk.of [] rfl ⟨rfl,rfl,rfl,rfl,rfl,rfl,rfl,rfl,rfl,rfl,rfl,rfl,trivial⟩ trivial rfl rfl
    ·have hb41':=ae hb41
     iterate 5 refine w_ ?_
     obtain ⟨ux,hx76⟩:∃z,(unrV xc)[k]? =some z:=⟨_,aa (by omega)⟩
     have hpl:=QoF hx76
     iterate 8 refine w_ ?_
     refine lc (dK (Hh xc.2.1 ux) Qir) ?_
     iterate 2 refine w_ ?_
     cases hb77:(decide (0≤(Zb (fun y=>decide (y=ux)) xc.2.1)))
     ·have hb77':=ab hb77
      refine w_ ?_
      refine AC.skip ?_
      refine (?_:AC _ _ _ _ _)
      iterate 3 refine w_ ?_
      refine Qd ?_
      refine l0_ ?_
      exact Wk.of [] rfl ⟨rfl,rfl,rfl,rfl,rfl,trivial⟩ ⟨rfl,trivial⟩ rfl rfl
     ·have hb77':=ae hb77
      iterate 4 refine w_ ?_
      refine Qb<|fqB hO ?_
      first | rfl | (exfalso; omega) | (exfalso; have h_:=hfl (by assumption); have h2_:=(by assumption:(_==_)=false); rw[h_] at h2_; simp at h2_; done) | (simp; done) | (exfalso; simp_all; done)
 ·iterate 3 refine w_ ?_
  refine Qb ?_
  exact fe_ hO
end Go.Proofs.YtfkmmpfdncopdaaGreat
