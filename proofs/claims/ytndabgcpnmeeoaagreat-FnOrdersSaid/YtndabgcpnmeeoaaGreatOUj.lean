/- slices.SortFunc of frozen lists of numbers, by slices.Compare. -/
import Derived.Test.YtndabgcpnmeeoaaGreatOFz
import Derived.Test.YtndabgcpnmeeoaaGreatOSo
import Derived.Test.YtndabgcpnmeeoaaGreatOAv
import Derived.Test.YtndabgcpnmeeoaaGreatOIdx
import Derived.Test.YtndabgcpnmeeoaaGreatProg
import Derived.KernelRfl
set_option linter.unusedSimpArgs false
set_option linter.unusedVariables false
set_option linter.unusedSectionVars false
namespace Go.Proofs.YtndabgcpnmeeoaaGreat
open Go.RowKit Go.Sort Go.Shelf Go.Lib
theorem QqA {P:Program}{f g:FuncId}{E E':TypeId}(hS:QkJ P f g)(V:QbZ P f)(hC:QiU P g E')(xs:List (List Int))(hl:xs.length≤1000000000):
 FC P f [(false,[.ref 0]),(false,[.clo g []])] [(0,some (.fz E (.sl E' .int) xs))] 1 (Is (.tup []) [(0,some (.fz E (.sl E' .int) (ZQ xs)))]):=fun B w vs J ha=>by
 obtain ⟨v,c5,rfl,⟨l,a3,U⟩,v2,c6,rfl,⟨l2,a2,h2⟩,rfl⟩:=ha
 simp only[aD,and_true] at a3 a2
 subst a3 a2
 have hv:v=B.h 0:=U ⟨_,rfl⟩
 have c2:v2= .func (.func g) #[] #[]:=h2 (by simp)
 subst hv c2
 obtain ⟨c,hO,hF⟩:=J.en 0 _ rfl
 obtain ⟨k2,kR⟩:=hF.fn
 have c4:c.length=xs.length:=hF.len
 have A:∀(y:List (List Int)) q,Tab.al [(0,some (Ent.fz E (.sl E' .int) y))] q→q=0:=fun y q ⟨e,u⟩=>by
  rw[Qd] at u
  split at u
  ·assumption
  ·cases u
 have C:xs=[]→∀p o,B.h 0= .slice p 0 o→Calls P f [B.h 0, .func (.func g) #[] #[]].toArray w fun e Q=>∃v pv T D,e= .returned v∧Is (.tup []) [(0,some (.fz E (.sl E' .int) (ZQ xs)))] pv T∧Cx T D Q∧PVR T.al D Q pv v∧Fr [(0,some (.fz E (.sl E' .int) xs))] T B D w Q∧∀q,q < 1→T.al q→D.h q=B.h q:=fun L p o hp=>by
  subst L
  rw[hp]
  refine Calls.mono (V p o _ w) fun e Q u=> ?_
  obtain ⟨rfl,rfl⟩:=u
  have b8:ZQ []=[]:=bu (V1 [])
  rw[b8]
  have b2:Cx [(0,some (Ent.fz E (.sl E' .int) []))] B Q:=J
  exact ⟨_,_,_,B,rfl,⟨rfl,rfl⟩,b2,⟨[],rfl,rfl⟩,⟨QV _,fun g _ _=>rfl,fun g hg=> .inl hg,fun q G g hg=> .inr ⟨q,G,hg⟩⟩,fun q _ _=>rfl⟩
 rcases hO with ⟨hf,K,L⟩ | ⟨b,o,r,fps,hf,K,hb,hn,X,a6,hL⟩
 ·simp only[aD,and_true] at K
  exact C (by rw[← k2,L]; rfl) _ _ K
 ·simp only[aD,and_true] at K
  obtain ⟨rfl,k1⟩:=QfB hL
  cases c with
  | nil=>
   have L:xs=[]:=by rw[← k2]; rfl
   exact C L _ _ (by rw[K]; rfl)
  | cons h0 c1=>
   generalize b4:h0 :: c1=c at*
   have b7:h0∈c:=by rw[← b4]; exact aw ..
   let α:={v:Hdr // v∈c}
   letI:Inhabited α:=⟨⟨h0,b7⟩⟩
   let F:Hdr→List Int:=rdF E' .int w
   let a:α→Value:=fun x=>hdV x.1
   have hg:b < w.heap.size:=(bA.1 hb).1
   have W:b∈B.f 0:=by rw[hf]; exact aw ..
   have a0:∀(n:Nat) (d:Array α) (H:Array Obj) g,B.N g→B.N g∧(sortWorld a w b 0 n d H).heap[g]? =w.heap[g]? :=fun n d H g V=>⟨V,Hf d (J.nl g V) fun e=>J.no 0 ⟨_,rfl⟩ g (e▸W) V⟩
   have a9:c.attach.map (fun x=>hdV x.1)=c.map hdV:=by
    have:c.attach.map (fun x=>hdV x.1)=(c.attach.map Subtype.val).map hdV:=by rw[cX]; rfl
    rw[this,List.attach_map_subtype_val]
   have hH:Holds a w b 0 c.attach.toArray:=QrT hb (by
    rw[List.length_attach]
    have:=k1
    simp only[Ty.wd,cr] at this
    rw[this]; exact a9.symm)
   have Z:c.attach.toArray.size=c.length:=by simp
   have Y:CmpLays1 P g #[] a (fun x y=>Jy (F x.1) (F y.1)) b 0 c.attach.toArray.size w:=fun m H dk _ x y=>by
    have hr:∀z:α,Rep (.sl E' .int) (sortWorld a w b 0 m dk H) [a z] (F z.1):=fun z=>((kR z.1 z.2).mono (a0 m dk H)).rep
    refine Calls.mono (hC (a x) (a y) _ _ _ (hr x) (hr y)) fun e Q u=> ?_
    obtain ⟨rfl,rfl⟩:=u
    exact ⟨rfl,0, #[],by rw[grow_empty]; rfl⟩
   have a8:∀x:α,(a x).oneCell'=true:=fun x=>by cases L:x.1 <;> simp[a,L,hdV,Value.oneCell']
   have hm:c.length < 4611686018427387904:=by omega
   have a7:=hS α a a8 _ (Qym fun x:α=>F x.1) b o c.attach.toArray w Y hH hg (by rw[Z]; exact hm)
   rw[Z] at a7
   rw[K]
   refine Calls.mono a7 fun e Q u=> ?_
   obtain ⟨rfl,k,n,H,⟨p1,p2,p3⟩,a5,rfl⟩:=u
   have I:c.attach.length=c.length:=List.length_attach
   have t:k.size=c.length:=by rw[p1]; exact I
   let R:List Hdr:=k.toList.map Subtype.val
   have O:c.Perm R:=by
    have e1:(k.extract 0 c.length).toList=k.toList:=by rw[← t]; simp
    have e2:(c.attach.toArray.extract 0 c.length).toList=c.attach:=by
     simp only[List.extract_toArray,List.extract_eq_take_drop,Nat.sub_zero,de]
     exact aJ (Nat.le_of_eq I)
    rw[e1,e2] at p3
    have:=p3.symm.map Subtype.val
    rwa [List.attach_map_subtype_val] at this
   have M:R.length=c.length:=O.length_eq.symm
   have c3:R.map F=ZQ xs:=by
    refine QcK ?_ ?_ (VN xs)
    ·have:=O.symm.map F
     rw[k2] at this
     exact this.trans (Xo xs).symm
    ·rw[bX,bX]
     rw[List.pairwise_iff_getElem]
     intro i j hi hj b6
     have b5:i < k.size:=by simpa using hi
     have a1:j < k.size:=by simpa using hj
     have:=a5 i j (aP _) b6 (by rw[← t]; exact a1)
     rw[dX k i b5,dX k j a1] at this
     simp only[Array.getElem_toList]
     cases a4:ltP (F k[j].1) (F k[i].1) with
     | false=>rfl
     | true=>
      have h3:=(QdB _ _).2 a4
      unfold ltOf at this
      exact absurd h3 (aa this)
   have b0:=Qvw (enc:=a) (n:=n) (os:=H) k hb
   have b1:(putCells a 0 k r).size=r.size:=by simp[putCells]
   refine ⟨_,_,_,B,rfl,⟨rfl,rfl⟩,⟨fun q e u=> ?_,fun q q' G c0 b9=>absurd ((A _ q G).trans (A _ q' c0).symm) b9,fun q G=> ?_,fun q G S s=> ?_,fun S s=>bq (J.nl S s) (QiE k).size⟩,⟨[],rfl,rfl⟩,
    ⟨QiE k,fun S U h2=> ?_,fun S U=> .inl U,fun q G S s=> ?_⟩,fun q _ _=>rfl⟩
   ·rw[Qd] at u
    split at u
    ·rename_i e0; subst e0; cases u
     refine ⟨R, .inr ⟨b,o,putCells a 0 k r,[],hf,by rw[M]; exact congrArg (fun z=>[z]) K,b0,by rw[M]; exact hn,X,by rw[b1]; exact a6, ?_⟩, ?_⟩
     ·have et:(putCells a 0 k r).toList.take (R.length*Ty.wd .vl)=R.map hdV:=by
       have b3:k.toList.length≤r.size:=by
        have:r.size=o*Ty.wd .vl:=a6
        simp only[Ty.wd,cr] at this
        rw[da,t]; omega
       have:=Qhx (enc:=a) r k.toList b3
       rw[M,← t]
       show List.take (k.size*1) _=_
       rw[cr]
       simp only[da] at this
       rw[show k.toList.toArray=k by simp] at this
       rw[this,cX]; rfl
      rw[et]
      exact Qij R
     ·rw[← c3]
      exact FzL.of fun v hv=>(kR v (O.mem_iff.2 hv)).mono (a0 n k H)
    ·cases u
   ·rw[A _ q G]; exact J.nd 0 ⟨_,rfl⟩
   ·rw[A _ q G] at s; exact J.no 0 ⟨_,rfl⟩ S s
   ·exact Hf k U fun e0=>h2 0 ⟨_,rfl⟩ (by rw[e0]; exact W)
   ·rw[A _ q G] at s; exact .inr ⟨0,⟨_,rfl⟩,s⟩
theorem QrC (xs:List (List Int))(e:xs.length≤1000000000):FC Tryz.prog 114 [(false,[.ref 0]),(false,[.clo 115 []])] [(0,some (.fz 123 Qm xs))] 1 (Is (.tup []) [(0,some (.fz 123 Qm (ZQ xs)))]):=
 QqA QsO Qht (fun u v a b w c d=>QcY u v a b w c d) xs e
end Go.Proofs.YtndabgcpnmeeoaaGreat
namespace Go.Proofs.YtndabgcpnmeeoaaGreat
open Go.RowKit
set_option maxRecDepth 100000
set_option maxHeartbeats 4000000
def swL (as_:List DAr)(l:Int×Bool):List Int:=(as_.filter fun a=>decide (a.2.1=l.1∧a.2.2.1=l.2)).map fun a=>a.2.2.2
def Qy7 (c:DSg)(sig:Int):Bool:=decide (0≤sig)&&decide (((c.1[sig.toNat]?).getD (ByteArray.empty,0)).2=1)
def Qsn (l:List QB)(k:Nat):List Int:=((List.range k).filter fun i=> !decide (((l[i]?).getD (ByteArray.empty,0)).2=1)).map fun i=>((i:Nat):Int)
def Qzp (c:DSg):ByteArray:=if ZO (fun x:QB=>decide (x.1=(⟨#[122,48]⟩:ByteArray))) c.1 < 0 then ⟨#[122,48]⟩ else if ZO (fun x:QB=>decide (x.1=(⟨#[122,49]⟩:ByteArray))) c.1 < 0 then ⟨#[122,49]⟩ else ⟨#[122,50]⟩
section
variable {c:DSg}{l:List Int}{as_:List DAr}{a:DAr}{p:Int×Bool}{k:Nat}{n m y sig:Int}{x:QB}{ss:List QB}
theorem QwH (b:∀j:Nat,(j:Int) < m→∀y,l[j]? =some y→y < n)(h:l[m.toNat]? =some n):l=Zr ltI n l:=
 (HS (k:=m.toNat) (fun j e y d=>by have:=b j (by omega) y d; simp[ltI,this]) h (by simp[ltI])).symm
theorem QwG (d:∀j:Nat,(j:Int) < m→∀y,l[j]? =some y→y < n)(h0:0≤m)(e:m≤(l.length:Int))(h:∀y,l[m.toNat]? =some y→¬y < n∧y≠n):l.take m.toNat++n :: l.drop m.toNat=Zr ltI n l:=
 (QdV (k:=m.toNat) (fun j f y b=>by have:=d j (by omega) y b; simp[ltI,this]) (by omega) fun y b=>by have:=h y b; simp[ltI,this]).symm
theorem Qoe (d:∀j:Nat,(j:Int) < m→∀y,l[j]? =some y→y < n)(h0:0≤m)(b:m≤(l.length:Int))(h:∀y,l[m.toNat]? =some y→¬y < n∧y≠n):
 (([]++(l.take (0+m.toNat)).drop 0)++[n])++(l.take (m.toNat+(l.length - m.toNat))).drop m.toNat=Zr ltI n l:=by
 rw[← QwG d h0 b h,show m.toNat+(l.length - m.toNat)=l.length by omega,bM]
 simp
abbrev Qzu:List ByteArray:=[(⟨#[122,48]⟩:ByteArray),(⟨#[122,49]⟩:ByteArray)]
end
theorem QhZ (l:List Int)(j:l.length≤1000000):FC Tryz.prog 268 [(false,[.ref 0])] [ar 0 3 .int l] 0 (XB 3 .int (ofG ltI l)):=by
 refine Qn Tryz.func268 rfl rfl Tryz.ntmps268 fun h f g b i e d=> ?_
 refine w5 ?_
 refine lc (dP 1 [] (Qub l (by omega)) Ql7) ?_
 refine w3 ?_
 refine lc (dP 2 [] (Qml (VE l) (by rw[Qcw]; omega)) Ql8) ?_
 refine w2 ?_
 refine Qe<|fo_ f ?_
 exact Qu0 _
theorem Vd (l:List Int)(n:Int):FC Tryz.prog 228 [(false,[.dat Qm l]),(false,[dI n])] [] 0 (Za (lB (decide (n∈l)))):=by
 refine Qn Tryz.func228 rfl rfl Tryz.ntmps228 fun w o u q z s r=> ?_
 refine acI 1 fun _=> ?_
 refine w6 ?_
 refine alL 7 fun _=> ?_
 refine w4 ?_
 refine lpK l.length (fun k=>∀j,j < k→∀y,l[j]? =some y→¬y=n) (fun k=>⟨[(1,lI n),(7,lf (.dat Qm l)),(8,lI (l.length:Int)),(9,lI (k:Int))],[]⟩) ((fun j i=>absurd i (bi j))) ?_ fun k _ g=> ?_
 exact wo []
 refine w4 ?_
 cases b:(decide ((k:Int) < (l.length:Int)))
 have d:=aa b
 refine w6 ?_
 refine Qe<|fqB o ?_
 first | exact (aQ fun t=>by obtain ⟨j,i⟩:=aO.1 t; exact g j (by have:=(ah.1 i).1; omega) n i rfl).symm
 have d:=ab b
 refine w5 ?_
 obtain ⟨v,h⟩:=gx l k
 refine w2 ?_
 refine alI 12 fun _=> ?_
 refine w7 ?_
 cases e:(decide (v=n))
 have f:=aa e
 refine w6 ?_
 refine Qf ?_
 refine lK_ ((Y6 g h ‹_›)) ?_
 exact wo []
 have f:=ab e
 refine w4 ?_
 refine Qe<|fqB o ?_
 exact (aY (by have:=ai h; simp_all)).symm
theorem XT (l:List Int)(n:Int)(I:l.length≤1000000000):FC Tryz.prog 389 [(false,[.ref 0]),(false,[dI n])] [ar 0 3 .int l] 0 (XB 3 .int (Zr ltI n l)):=by
 refine Qn Tryz.func389 rfl rfl Tryz.ntmps389 fun G q F w H B A=> ?_
 refine acI 1 fun _=> ?_
 refine w8 ?_
 refine QH (fun u v=>∃(m:Int),u=((l.length:Int) - m).toNat∧(0≤m∧m≤(l.length:Int))∧(∀j:Nat,(j:Int) < m→∀y,l[j]? =some y→y < n)∧v=⟨[(0,lR 0),(1,lI n),(4,lf (.val (.slice none 0 0))),(5,lI m)],[ar 0 3 .int l]⟩) ⟨0,rfl,(by omega),(fun j C=>by omega),rfl⟩ ?_ ?_
 exact wo []
 rintro u v ⟨m,D,J,o,rfl⟩
 refine w7 ?_
 cases d:(decide (m < (l.length:Int)))
 have f:=aa d
 refine w16 ?_
 refine w2 ?_
 have r:(decide (m < (l.length:Int)))=false:=d
 try rw[r]
 refine w11 ?_
 refine lc (dBs 1 (e:= .int) Zq) ?_
 refine w2 ?_
 refine lc (Zz (e:= .int) (a:=0) (b:=(m).toNat) (l:=none) (h:=(some m)) (Qa rfl) rfl (by exact trivial) (by exact (Qa rfl)) ZZ Xe rfl (by first | (simp only[ak,aj]; omega) | omega | (simp only[ak,aj,ae,ao,aF]; omega)) (by first | (simp only[ak,aj]; omega) | omega | (simp only[ak,aj,ae,ao,aF]; omega)) (by first | (simp only[ak,aj]; omega) | omega | (simp only[ak,aj,ae,ao,aF]; omega)) (by first | rfl | simp) (by first | rfl | simp))<|lc (QI 2 (Qa rfl) rfl (YS (e:= .int) (Qa rfl) rfl (by omega)) rfl ZZ YO (by first | omega | (simp only[ae,aB,ao,aq,az]; omega) | (simp only[ae,aW,ao,aq,az]; omega)) rfl (Fresh.of rfl) (nlr rfl)) ?_
 refine w5 ?_
 refine lc (dBs 3 (e:= .int) Zq) ?_
 refine lc (dA 4 YO) ?_
 refine w6 ?_
 refine lc (Zz (e:= .int) (a:=(m).toNat) (b:=l.length - (m).toNat) (l:=(some m)) (h:=none) (Qa rfl) rfl (by exact (Qa rfl)) (by exact trivial) ZZ Xe rfl (by first | (simp only[ak,aj]; omega) | omega | (simp only[ak,aj,ae,ao,aF]; omega)) (by first | (simp only[ak,aj]; omega) | omega | (simp only[ak,aj,ae,ao,aF]; omega)) (by first | (simp only[ak,aj]; omega) | omega | (simp only[ak,aj,ae,ao,aF]; omega)) (by first | rfl | simp) (by first | rfl | simp))<|lc (QI 5 (Qa rfl) rfl (YS (e:= .int) (Qa rfl) rfl (by omega)) rfl ZZ YO (by first | omega | (simp only[ae,aB,ao,aq,az]; omega) | (simp only[ae,aW,ao,aq,az]; omega)) rfl (Fresh.of rfl) (nlr rfl)) ?_
 refine w2 ?_
 refine Qe<|fo_ q ?_
 exact Qoe o (by omega) (by omega) (fun z t=>by simp_all)
 have f:=ab d
 refine w3 ?_
 obtain ⟨y,E⟩:=gx l ((m).toNat)
 refine w5 ?_
 cases g:(decide (y < n))
 have i:=aa g
 refine w10 ?_
 have s:(decide (m < (l.length:Int)))=true:=d
 try rw[s]
 refine w8 ?_
 refine cd_ (fun _ _=> ?_) fun _ _=> ?_
 refine w2 ?_
 refine lc (dBs 6 (e:= .int) Zq) ?_
 refine w2 ?_
 refine lc (Zz (e:= .int) (a:=0) (b:=(m).toNat) (l:=none) (h:=(some m)) (Qa rfl) rfl (by exact trivial) (by exact (Qa rfl)) ZZ Xe rfl (by first | (simp only[ak,aj]; omega) | omega | (simp only[ak,aj,ae,ao,aF]; omega)) (by first | (simp only[ak,aj]; omega) | omega | (simp only[ak,aj,ae,ao,aF]; omega)) (by first | (simp only[ak,aj]; omega) | omega | (simp only[ak,aj,ae,ao,aF]; omega)) (by first | rfl | simp) (by first | rfl | simp))<|lc (QI 7 (Qa rfl) rfl (YS (e:= .int) (Qa rfl) rfl (by omega)) rfl ZZ YO (by first | omega | (simp only[ae,aB,ao,aq,az]; omega) | (simp only[ae,aW,ao,aq,az]; omega)) rfl (Fresh.of rfl) (nlr rfl)) ?_
 refine w5 ?_
 refine lc (dBs 8 (e:= .int) Zq) ?_
 refine lc (dA 9 YO) ?_
 refine w6 ?_
 refine lc (Zz (e:= .int) (a:=(m).toNat) (b:=l.length - (m).toNat) (l:=(some m)) (h:=none) (Qa rfl) rfl (by exact (Qa rfl)) (by exact trivial) ZZ Xe rfl (by first | (simp only[ak,aj]; omega) | omega | (simp only[ak,aj,ae,ao,aF]; omega)) (by first | (simp only[ak,aj]; omega) | omega | (simp only[ak,aj,ae,ao,aF]; omega)) (by first | (simp only[ak,aj]; omega) | omega | (simp only[ak,aj,ae,ao,aF]; omega)) (by first | rfl | simp) (by first | rfl | simp))<|lc (QI 10 (Qa rfl) rfl (YS (e:= .int) (Qa rfl) rfl (by omega)) rfl ZZ YO (by first | omega | (simp only[ae,aB,ao,aq,az]; omega) | (simp only[ae,aW,ao,aq,az]; omega)) rfl (Fresh.of rfl) (nlr rfl)) ?_
 refine w2 ?_
 refine Qe<|fo_ q ?_
 exact Qoe o (by omega) (by omega) (fun z t=>by simp_all)
 refine w4 ?_
 refine Qe<|fo_ q ?_
 exact QwH o (by simp_all)
 have i:=ab g
 refine w7 ?_
 refine Qf<|ZF ⟨(m+1),rfl,(by omega),(fun j C z t=>by by_cases e:j=m.toNat <;> first | (subst e; simp_all; done) | exact o j (by omega) z t),rfl⟩ (by omega) ?_
 exact wo []
theorem Wx (l:List ByteArray)(o:l.length≤1000000000):FC Tryz.prog 390 [(false,[.dat Qu l])] [] 0 (XB 9 .str l):=by
 refine Qn Tryz.func390 rfl rfl Tryz.ntmps390 fun i g h b j f d=> ?_
 refine w4 ?_
 refine lc (dBs 0 (e:= .str) Ut) ?_
 refine w_ ?_
 refine lc (QI 1 (Qa rfl) rfl (Evl.rep (Qa rfl)) rfl XQ Jm (by first | omega | (simp only[ae,aB,ao,aq,az]; omega) | (simp only[ae,aW,ao,aq,az]; omega)) rfl (Fresh.of rfl) (nlr rfl)) ?_
 refine w2 ?_
 refine Qe<|fo_ g ?_
 rfl
end Go.Proofs.YtndabgcpnmeeoaaGreat
namespace Go.Proofs.YtndabgcpnmeeoaaGreat
open Go.RowKit
set_option maxRecDepth 100000
set_option maxHeartbeats 4000000
abbrev U2 (a:DAr)(l:Int×Bool):Prop:=a.2.1=l.1∧a.2.2.1=l.2
def ixE (as_:List DAr):List (Int×Int):=as_.zipIdx.map fun x=>(x.1.1,(x.2:Int))
inductive ClS (as_:List DAr) (p r:Int×Bool):Int→Prop
  | base {a:DAr}:a∈as_→U2 a p→ClS as_ p r a.2.2.2
  | step {a:DAr}:a∈as_→ClS as_ p r a.1→¬U2 a r→ClS as_ p r a.2.2.2
def Qip (p:Int×Bool)(l:List Int)(a:DAr):List Int:=if U2 a p then Zr ltI a.2.2.2 l else l
def Vn (r:Int×Bool)(l:List Int)(a:DAr):List Int:=if a.1∈l∧¬U2 a r then Zr ltI a.2.2.2 l else l
def VF {α:Type}(f:α→α):Nat→α→α
 | 0,x=>x
 | n+1,x=>f (VF f n x)
def JM (c:DSg)(p r:Int×Bool):List Int:=VF (fun l=>c.2.2.foldl (Vn r) l) c.2.1.length (c.2.2.foldl (Qip p) [])
theorem QrX {α:Type}{f:α→α}{I:α→Prop}{m:α→Nat}{n:Nat}(g:∀x,I x→I (f x))(u:∀x,I x→m x≤n)(s:∀x,I x→f x=x∨m x < m (f x)){x:α}(v:I x):f (VF f n x)=VF f n x:=by
 have d:∀k,I (VF f k x):=fun k=>by
  induction k with
  | zero=>exact v
  | succ k e=>exact g _ e
 have t:∀k,f (VF f k x)=VF f k x∨k≤m (VF f k x):=fun k=>by
  induction k with
  | zero=>exact .inr (aP _)
  | succ k e=>
   rcases e with h | h
   ·exact .inl (by show f (f (VF f k x))=f (VF f k x); rw[h,h])
   ·rcases s _ (d k) with b | b
    ·exact .inl (by show f (f (VF f k x))=f (VF f k x); rw[b,b])
    ·exact .inr (by show k+1≤m (f (VF f k x)); omega)
 rcases t n with h | h
 ·exact h
 ·rcases s _ (d n) with b | b
  ·exact b
  ·have:=u _ (g _ (d n)); omega
section
variable {c:DSg}{as_:List DAr}{a:DAr}{p r:Int×Bool}{k i j n:Nat}{l out ts ys L:List Int}{seen:List Bool}{x y o q at_:Int}
theorem QiB:∀{l:List Int} {lo hi:Int},l.Pairwise (fun x y=>ltI x y=true)→(∀x∈l,lo≤x∧x < hi)→lo≤hi→(l.length:Int)≤hi - lo
 | [],_,_,_,_,h=>by simp; omega
 | x :: l,lo,hi,h1,h2,h3=>by
  obtain ⟨d,e⟩:=bm.1 h1
  have g:=h2 x (aw ..)
  have:=QiB (l:=l) (lo:=x+1) (hi:=hi) e (fun y b=>by have f:=d y b; have m:=h2 y (ax _ b); simp only[ltI,aS] at f; omega) (by omega)
  simp only[aq]; omega
theorem QpB (h:l.Nodup)(e:∀x∈l,0≤x∧x < (n:Int)):l.length≤n:=by
 have b:(VE l).Nodup:=(QaN l).nodup_iff.2 h
 have d:(VE l).Pairwise fun x y=>ltI x y=true:=by
  have:=(Qbz l).and b
  exact this.imp fun ⟨g,m⟩=>by simp only[ltI,aS]; omega
 have:=QiB d (lo:=0) (hi:=n) (fun x f=>e x (Qcx.1 f)) (by omega)
 rw[Qcw] at this
 omega
abbrev Qxn (l:List Int):Prop:=l.Pairwise fun x y=>ltI x y=true
theorem QfI:∀(x:Int) (l:List Int),Zr ltI x l=l∨(Zr ltI x l).length=l.length+1
 | x,[]=> .inr rfl
 | x,y :: l=>by
  unfold Zr
  split
  ·rcases QfI x l with h | h
   ·exact .inl (by rw[h])
   ·exact .inr (by simp[h])
  ·split
   ·exact .inl rfl
   ·exact .inr rfl
theorem Qj2:Vn r l a=l∨(Vn r l a).length=l.length+1:=by
 unfold Vn
 split
 ·exact QfI _ _
 ·exact .inl rfl
theorem QbL:∀(as_:List DAr) (l:List Int),as_.foldl (Vn r) l=l∨l.length < (as_.foldl (Vn r) l).length
 | [],l=> .inl rfl
 | a :: as_,l=>by
  rw[bh]
  rcases QbL as_ (Vn r l a) with h | h <;> rcases Qj2 (r:=r) (l:=l) (a:=a) with b | b
  ·exact .inl (by rw[h,b])
  ·exact .inr (by rw[h]; omega)
  ·rw[b] at h ⊢; exact .inr h
  ·exact .inr (by omega)
structure BlS (c:DSg) (p r:Int×Bool) (l:List Int):Prop where
  str:Qxn l
  cl:∀x∈l,ClS c.2.2 p r x
theorem BlS.put (h:BlS c p r l)(d:ClS c.2.2 p r x):BlS c p r (Zr ltI x l):=⟨Ha X4 h.str,fun y b=>by
 rcases Y3.1 b with rfl | b
 ·exact d
 ·exact h.cl y b⟩
theorem Qct:∀{as_:List DAr} {l:List Int},(∀a∈as_,a∈c.2.2)→BlS c p r l→BlS c p r (as_.foldl (Qip p) l)∧(∀x∈l,x∈as_.foldl (Qip p) l)∧∀a∈as_,U2 a p→a.2.2.2∈as_.foldl (Qip p) l
 | [],l,_,h=>⟨h,fun x d=>d,fun a s=>by cases s⟩
 | a :: as_,l,hs,h=>by
  have g:BlS c p r (Qip p l a)∧(∀x∈l,x∈Qip p l a)∧(U2 a p→a.2.2.2∈Qip p l a):=by
   unfold Qip
   split
   ·rename_i m
    exact ⟨h.put (.base (hs a (aw ..)) m),fun x d=>Y3.2 (.inr d),fun _=>Y3.2 (.inl rfl)⟩
   ·rename_i m
    exact ⟨h,fun x d=>d,fun f=>absurd f m⟩
  obtain ⟨t,i2,i3⟩:=Qct (l:=Qip p l a) (fun b e=>hs b (ax _ e)) g.1
  refine ⟨t,fun x d=>i2 x (g.2.1 x d),fun b e f=> ?_⟩
  rcases aE.1 e with rfl | e
  ·exact i2 _ (g.2.2 f)
  ·exact i3 b e f
theorem WX:∀{as_:List DAr} {l:List Int},(∀a∈as_,a∈c.2.2)→BlS c p r l→BlS c p r (as_.foldl (Vn r) l)∧(∀x∈l,x∈as_.foldl (Vn r) l)∧∀a∈as_,a.1∈l→¬U2 a r→a.2.2.2∈as_.foldl (Vn r) l
 | [],l,_,h=>⟨h,fun x d=>d,fun a u=>by cases u⟩
 | a :: as_,l,hs,h=>by
  have e:BlS c p r (Vn r l a)∧(∀x∈l,x∈Vn r l a)∧(a.1∈l→¬U2 a r→a.2.2.2∈Vn r l a):=by
   unfold Vn
   split
   ·rename_i g
    exact ⟨h.put (.step (hs a (aw ..)) (h.cl _ g.1) g.2),fun x d=>Y3.2 (.inr d),fun _ _=>Y3.2 (.inl rfl)⟩
   ·rename_i g
    exact ⟨h,fun x d=>d,fun e t=>absurd ⟨e,t⟩ g⟩
  obtain ⟨v,i2,i3⟩:=WX (l:=Vn r l a) (fun b f=>hs b (ax _ f)) e.1
  refine ⟨v,fun x d=>i2 x (e.2.1 x d),fun b f s m=> ?_⟩
  rcases aE.1 f with rfl | f
  ·exact i2 _ (e.2.2 s m)
  ·exact i3 b f (e.2.1 _ s) m
theorem QtP (d:∀a∈as_,0≤a.2.2.2∧a.2.2.2 < (n:Int))(h:ClS as_ p r x):0≤x∧x < (n:Int):=by
 cases h with
 | base b _=>exact d _ b
 | step b _ _=>exact d _ b
theorem Qfk {f:List Int→List Int}(d:∀l,BlS c p r l→BlS c p r (f l)∧∀x∈l,x∈f l)(h:BlS c p r l):∀k,BlS c p r (VF f k l)∧∀x∈l,x∈VF f k l
 | 0=>⟨h,fun x b=>b⟩
 | k+1=>by
  obtain ⟨e,g⟩:=Qfk d h k
  obtain ⟨m,s⟩:=d _ e
  exact ⟨m,fun x b=>s x (g x b)⟩
theorem Qem (c:DSg)(p r:Int×Bool):BlS c p r (JM c p r):=
 (Qfk (fun l b=>⟨(WX (fun _ h=>h) b).1,(WX (fun _ h=>h) b).2.1⟩) (Qct (fun _ h=>h) ⟨cj,fun x d=>by cases d⟩).1 _).1
theorem QkV (B:∀a∈c.2.2,InR c.2.1.length a):x∈JM c p r↔ClS c.2.2 p r x:=by
 have z:BlS c p r ([]:List Int):=⟨cj,fun x u=>by cases u⟩
 obtain ⟨v,D,w⟩:=Qct (as_:=c.2.2) (fun _ h=>h) z
 have t:∀a∈c.2.2,0≤a.2.2.2∧a.2.2.2 < (c.2.1.length:Int):=fun a A=>(B a A).2
 have s:=QrX (f:=fun l=>c.2.2.foldl (Vn r) l) (I:=BlS c p r) (m:=List.length) (n:=c.2.1.length) (fun l d=>(WX (fun _ h=>h) d).1)
  (fun l d=>by have:=QiB d.str (lo:=0) (hi:=c.2.1.length) (fun x u=>QtP t (d.cl x u)) (by omega); omega) (fun l _=>QbL _ _) v
 have b:=(Qfk (f:=fun l=>c.2.2.foldl (Vn r) l) (fun l d=>⟨(WX (fun _ h=>h) d).1,(WX (fun _ h=>h) d).2.1⟩) v c.2.1.length)
 refine ⟨(Qem c p r).cl x,fun h=> ?_⟩
 induction h with
 | base e g=>exact b.2 _ (w _ e g)
 | step e _ g C=>
  have:=(WX (r:=r) (fun _ h=>h) b.1).2.2 _ e C g
  rw[s] at this
  exact this
def mkS (n:Nat)(l:List Int):List Bool:=l.foldl (fun s x=>s.set x.toNat true) (List.replicate n false)
theorem Quu:(mkS n l).length=n:=by
 unfold mkS
 have:∀(l:List Int) (s:List Bool),(l.foldl (fun s x=>s.set x.toNat true) s).length=s.length:=fun l=>by
  induction l with
  | nil=>intro s; rfl
  | cons x l b=>intro s; rw[bh,b,au]
 rw[this]; simp
theorem Qwo (b:∀x∈l,0≤x∧x < (n:Int))(h0:0≤x)(h:x < (n:Int)):(mkS n l)[x.toNat]? =some true↔x∈l:=by
 unfold mkS
 have:∀(l:List Int) (s:List Bool),s.length=n→(∀x∈l,0≤x∧x < (n:Int))→((l.foldl (fun s x=>s.set x.toNat true) s)[x.toNat]? =some true↔s[x.toNat]? =some true∨x∈l):=fun l=>by
  induction l with
  | nil=>intro s _ _; simp
  | cons y l g=>
   intro s d b
   have m:=b y (aw ..)
   rw[bh,g _ (by rw[au]; exact d) fun z f=>b z (ax _ f),aE]
   by_cases e:x=y
   ·subst e
    rw[aX (by omega)]; simp
   ·rw[aZ (by omega)]; simp[e]
 rw[this l _ (by simp) b]
 simp[cH]
structure BlI (c:DSg) (p r:Int×Bool) (at_:Int) (out:List Int) (seen:List Bool):Prop where
  rng:0≤at_∧at_≤(out.length:Int)
  nd:out.Nodup
  q:∀x∈out,(0≤x∧x < (c.2.1.length:Int))∧ClS c.2.2 p r x
  sn:seen.length=c.2.1.length
  se:∀x,0≤x→x < (c.2.1.length:Int)→(seen[x.toNat]? =some true↔x∈out)
  base:∀a∈c.2.2,U2 a p→a.2.2.2∈out
  cl:∀(j:Nat) (o:Int),(j:Int) < at_→out[j]? =some o→∀a∈c.2.2,a.1=o→¬U2 a r→a.2.2.2∈out
theorem QiD:x∈swL as_ p↔∃a∈as_,U2 a p∧a.2.2.2=x:=by
 unfold swL
 simp only[aR,cD,aS]
 constructor
 ·rintro ⟨a,⟨b,d⟩,e⟩; exact ⟨a,b,d,e⟩
 ·rintro ⟨a,b,d,e⟩; exact ⟨a,⟨b,d⟩,e⟩
theorem Qs3 (d:∀a∈c.2.2,InR c.2.1.length a)(h:out=ofG ltI (swL c.2.2 p))(e:x∈out):0≤x∧x < (c.2.1.length:Int):=by
 subst h
 obtain ⟨a,b,_,rfl⟩:=QiD.1 ((WC X4 _).1 e)
 exact (d a b).2
theorem Qp5 (h:Qxn l):l.Nodup:=h.imp fun h=>by simp only[ltI,aS] at h; omega
theorem BlI.start (e:∀a∈c.2.2,InR c.2.1.length a)(h:out=ofG ltI (swL c.2.2 p))(f:seen=mkS c.2.1.length out):BlI c p r 0 out seen where
 rng:=by omega
 nd:=by rw[h]; exact Qp5 (HK X4 _)
 q x hx:=⟨Qs3 e h hx,by
  rw[h] at hx
  obtain ⟨a,b,d,rfl⟩:=QiD.1 ((WC X4 _).1 hx)
  exact .base b d⟩
 sn:=by rw[f,Quu]
 se x h0 b:=by rw[f]; exact Qwo (fun y g=>Qs3 e h g) h0 b
 base a b d:=by rw[h]; exact (WC X4 _).2 (QiD.2 ⟨a,b,d,rfl⟩)
 cl j o hj:=by omega
theorem BlI.few (h:BlI c p r at_ out seen):out.length≤c.2.1.length:=QpB h.nd fun x b=>(h.q x b).1
theorem BlI.inr (h:BlI c p r at_ out seen)(b:out[k]? =some x):0≤x∧x < (c.2.1.length:Int):=(h.q x (ai b)).1
theorem BlI.push (h:BlI c p r at_ out seen)(I:∀a∈c.2.2,InR c.2.1.length a)(H:o∈out)(s:a∈c.2.2)(z:a.1=o)(A:¬U2 a r)(J:seen[a.2.2.2.toNat]? =some false):BlI c p r at_ (out++[a.2.2.2]) (seen.set a.2.2.2.toNat true):=by
 have f:=(I a s).2
 have m:a.2.2.2∉out:=fun G=>by have:=(h.se _ f.1 f.2).2 G; rw[J] at this; cases this
 have E:=h.sn
 refine ⟨by have:=h.rng; simp; omega, ?_,fun x d=> ?_,by rw[au]; exact E,fun x w B=> ?_,fun b g F=>aH _ (h.base b g F),fun j K C d b g u v=> ?_⟩
 ·rw[aT]
  exact ⟨h.nd,by simp,fun x d y t e=>by rw[aC] at t; rw[e,t] at d; exact m d⟩
 ·rcases aG.1 d with d | d
  ·exact h.q x d
  ·rw[aC] at d; subst d
   exact ⟨f, .step s (by rw[z]; exact (h.q o H).2) A⟩
 ·rw[aG,aC]
  by_cases e:x=a.2.2.2
  ·subst e; rw[aX (by omega)]; simp
  ·rw[aZ (by omega),h.se x w B]; simp[e]
 ·have D:=h.rng
  rw[bf (by omega)] at d
  exact aH _ (h.cl j K C d b g u v)
theorem BlI.next (h:BlI c p r at_ out seen)(h0:at_ < (out.length:Int))(f:out[at_.toNat]? =some o)(d:∀a∈c.2.2,a.1=o→¬U2 a r→a.2.2.2∈out):BlI c p r (at_+1) out seen:=by
 refine ⟨by have:=h.rng; omega,h.nd,h.q,h.sn,h.se,h.base,fun j g m b=> ?_⟩
 by_cases e:(j:Int)=at_
 ·have:j=at_.toNat:=by omega
  subst this
  rw[f] at b; cases b
  exact d
 ·exact h.cl j g (by omega) b
theorem QyE (h:BlI c p r at_ out seen)(g:∀a∈c.2.2,InR c.2.1.length a)(h0:¬at_ < (out.length:Int)):ofG ltI out=JM c p r:=by
 refine TO.ext X4 (HK X4 _) (Qem c p r).str fun x=> ?_
 rw[WC X4,QkV g]
 refine ⟨fun e=>(h.q x e).2,fun e=> ?_⟩
 induction e with
 | base b d=>exact h.base _ b d
 | step b _ d m=>
  obtain ⟨j,f⟩:=aO.1 m
  have:=(ah.1 f).1
  exact h.cl j _ (by omega) f _ b rfl d
end
section
variable {c:DSg}{as_:List DAr}{a:DAr}{p r:Int×Bool}{k i j n:Nat}{l:List Int}
end
end Go.Proofs.YtndabgcpnmeeoaaGreat
namespace Go.Proofs.YtndabgcpnmeeoaaGreat
open Go.RowKit
set_option maxRecDepth 100000
set_option maxHeartbeats 4000000
def sg0 (n:Nat)(block:List Int):List UInt8:=(List.range n).map fun k:Nat=>if (k:Int)∈block then (49:UInt8) else 48
def Qr5 (block:List Int)(s:List UInt8)(a:DAr):List UInt8:=if¬a.1∈block∧a.2.2.2∈block then s.set a.2.2.2.toNat 43 else if a.1∈block∧¬a.2.2.2∈block then s.set a.2.2.2.toNat 45 else s
def inA (c:DSg)(a:DAr):Bool:=decide (a.2.1 < 0)||decide (((c.1[a.2.1.toNat]?).getD (ByteArray.empty,0)).2=1)
def sAt (s:List UInt8)(x:Int):UInt8:=(s[x.toNat]?).getD 0
def Qaf (c:DSg)(block:List Int)(s:List UInt8)(a:DAr):List UInt8:=if (sAt s a.1=43∨sAt s a.1=45)∧inA c a=true∧(a.1∈block↔a.2.2.2∈block) then s.set a.2.2.2.toNat (sAt s a.1) else s
def Qso (c:DSg)(block:List Int)(s:List UInt8):List UInt8:=c.2.2.foldl (Qaf c block) s
def QxZ (c:DSg)(block:List Int):List UInt8:=c.2.2.foldl (Qr5 block) (sg0 c.2.1.length block)
def Qzo (c:DSg)(block:List Int):List UInt8:=VF (Qso c block) c.2.1.length (QxZ c block)
def QwJ (c:DSg)(block:List Int):ByteArray:=⟨(Qzo c block).toArray⟩
structure SI (n:Nat) (block:List Int) (s:List UInt8):Prop where
  len:s.length=n
  at_:∀x:Int,0≤x→x < (n:Int)→(x∈block∧(sAt s x=49∨sAt s x=43))∨(¬x∈block∧(sAt s x=48∨sAt s x=45))
def nMk (s:List UInt8):Nat:=(s.filter fun x=>decide (x=43∨x=45)).length
def cMk (s:List UInt8):Nat:=(s.filter fun x=> !decide (x=43∨x=45)).length
section
variable {c:DSg}{as_:List DAr}{a:DAr}{block:List Int}{k i n m:Nat}{s s2 sg:List UInt8}{x y:Int}{z zf zt u v:UInt8}{ch:Bool}
theorem Qpz {α:Type}{l:List α}{j:Nat}{w:α}(h:l[j]? =some w):l.set j w=l:=by
 apply bF
 intro i
 by_cases e:j=i
 ·subst e; rw[aX (ah.1 h).1,h]
 ·rw[aZ e]
theorem QuO (h:s[x.toNat]? =some z):sAt s x=z:=by unfold sAt; rw[h]; rfl
theorem QuP (f:s.length=n)(h0:0≤y)(b:y < (n:Int))(d:0≤x):sAt (s.set y.toNat z) x=if x=y then z else sAt s x:=by
 unfold sAt
 by_cases e:x=y
 ·subst e; rw[aX (by omega),if_pos rfl]; rfl
 ·rw[aZ (by omega),if_neg e]
theorem SI.set (h:SI n block s)(h0:0≤y)(g:y < (n:Int))(j:(y∈block∧z=43)∨(¬y∈block∧z=45)):SI n block (s.set y.toNat z):=by
 refine ⟨by rw[au]; exact h.len,fun x f l=> ?_⟩
 rw[QuP h.len h0 g f]
 by_cases e:x=y
 ·subst e
  rw[if_pos rfl]
  rcases j with ⟨b,d⟩ | ⟨b,d⟩
  ·exact .inl ⟨b, .inr d⟩
  ·exact .inr ⟨b, .inr d⟩
 ·rw[if_neg e]; exact h.at_ x f l
theorem QyK (h:SI n block s)(b:InR n a):SI n block (Qr5 block s a):=by
 unfold Qr5
 split
 ·rename_i g; exact h.set b.2.1 b.2.2 (.inl ⟨g.2,rfl⟩)
 ·split
  ·rename_i g; exact h.set b.2.1 b.2.2 (.inr ⟨g.2,rfl⟩)
  ·exact h
theorem SI.val (h:SI n block s)(j:InR n a)(d:sAt s a.1=43∨sAt s a.1=45)(f:a.1∈block↔a.2.2.2∈block):(a.2.2.2∈block∧sAt s a.1=43)∨(¬a.2.2.2∈block∧sAt s a.1=45):=by
 rcases h.at_ a.1 j.1.1 j.1.2 with ⟨e,b⟩ | ⟨e,b⟩
 ·refine .inl ⟨f.1 e, ?_⟩
  rcases b with b | b
  ·rw[b] at d; rcases d with d | d <;> exact absurd d (by decide)
  ·exact b
 ·refine .inr ⟨fun g=>e (f.2 g), ?_⟩
  rcases b with b | b
  ·rw[b] at d; rcases d with d | d <;> exact absurd d (by decide)
  ·exact b
theorem Qjz (q:UInt8→Bool):∀{s:List UInt8} {j:Nat} {u v:UInt8},s[j]? =some u→q u=false→q v=true→((s.set j v).filter q).length=(s.filter q).length+1
 | [],j,u,v,h,_,_=>by simp at h
 | w :: s,0,u,v,h,h1,h2=>by
  simp at h; subst h
  simp[h1,h2]
 | w :: s,j+1,u,v,h,h1,h2=>by
  have b:=Qjz q (s:=s) (j:=j) (by simpa using h) h1 h2
  rw[cv]
  by_cases e:q w=true
  ·rw[List.filter_cons_of_pos e,List.filter_cons_of_pos e,aq,aq,b]
  ·rw[List.filter_cons_of_neg e,List.filter_cons_of_neg e,b]
theorem QgX (q:UInt8→Bool):∀{s:List UInt8} {j:Nat} {u v:UInt8},s[j]? =some u→q u=true→q v=false→((s.set j v).filter q).length+1=(s.filter q).length
 | [],j,u,v,h,_,_=>by simp at h
 | w :: s,0,u,v,h,h1,h2=>by
  simp at h; subst h
  simp[h1,h2]
 | w :: s,j+1,u,v,h,h1,h2=>by
  have b:=QgX q (s:=s) (j:=j) (by simpa using h) h1 h2
  rw[cv]
  by_cases e:q w=true
  ·rw[List.filter_cons_of_pos e,List.filter_cons_of_pos e,aq,aq,b]
  ·rw[List.filter_cons_of_neg e,List.filter_cons_of_neg e,b]
theorem QmF (h:SI n block s)(f:InR n a):SI n block (Qaf c block s a)∧(Qaf c block s a=s∨(nMk s < nMk (Qaf c block s a)∧cMk (Qaf c block s a) < cMk s)):=by
 unfold Qaf
 split
 ·rename_i g
  have q:=h.val f g.1 g.2.2
  refine ⟨h.set f.2.1 f.2.2 q, ?_⟩
  have r:=h.len
  have l:s[a.2.2.2.toNat]? =some (sAt s a.2.2.2):=by
   unfold sAt
   rw[ap (by have:=f.2; omega)]; rfl
  by_cases e:sAt s a.2.2.2=sAt s a.1
  ·exact .inl (by rw[← e]; exact Qpz l)
  ·right
   have b:¬(sAt s a.2.2.2=43∨sAt s a.2.2.2=45):=fun b=>by
    rcases h.at_ a.2.2.2 f.2.1 f.2.2 with ⟨j,d⟩ | ⟨j,d⟩ <;> rcases q with ⟨o,p⟩ | ⟨o,p⟩
    ·rcases d with d | d
     ·rw[d] at b; rcases b with b | b <;> exact absurd b (by decide)
     ·exact e (d.trans p.symm)
    ·exact o j
    ·exact j o
    ·rcases d with d | d
     ·rw[d] at b; rcases b with b | b <;> exact absurd b (by decide)
     ·exact e (d.trans p.symm)
   constructor
   ·unfold nMk
    rw[Qjz _ l (aQ b) (aY g.1)]; omega
   ·unfold cMk
    have:=QgX (fun x=> !decide (x=43∨x=45)) l (by simp only[aQ b]; rfl) (v:=sAt s a.1) (by simp only[aY g.1]; rfl)
    omega
 ·exact ⟨h, .inl rfl⟩
structure PI (c:DSg) (block:List Int) (sg:List UInt8) (i:Nat) (s:List UInt8) (ch:Bool):Prop where
  si:SI c.2.1.length block s
  eq:Qso c block sg=(c.2.2.drop i).foldl (Qaf c block) s
  no:ch=false→s=sg
  yes:ch=true→cMk s < cMk sg
  le:cMk s≤cMk sg
theorem PI.start (h:SI c.2.1.length block sg):PI c block sg 0 sg false:=⟨h,rfl,fun _=>rfl,(fun h=>by cases h),aL _⟩
theorem Qny (e:as_[i]? =some a):as_.drop i=a :: as_.drop (i+1):=by
 obtain ⟨b,d⟩:=ah.1 e
 rw[bU b,d]
theorem PI.skip (h:PI c block sg i s ch)(d:c.2.2[i]? =some a)(b:Qaf c block s a=s):PI c block sg (i+1) s ch:=⟨h.si,by rw[h.eq,Qny d,bh,b],h.no,h.yes,h.le⟩
theorem QyR (h:PI c block sg i s ch)(t:∀a∈c.2.2,InR c.2.1.length a)(j:c.2.2[i]? =some a)(p:s[a.1.toNat]? =some u)(f:s[a.2.2.2.toNat]? =some v)(r:u=43∨u=45)(hi:inA c a=true)(hb:a.1∈block↔a.2.2.2∈block)(d:¬v=u):PI c block sg (i+1) (s.set a.2.2.2.toNat u) true:=by
 have q:=t a (ai j)
 have b:Qaf c block s a=s.set a.2.2.2.toNat u:=by
  unfold Qaf
  rw[QuO p,if_pos ⟨r,hi,hb⟩]
 obtain ⟨l,o⟩:=QmF (c:=c) h.si q
 rw[b] at l o
 have w:¬s.set a.2.2.2.toNat u=s:=fun e=>by
  have g:(s.set a.2.2.2.toNat u)[a.2.2.2.toNat]? =some u:=aX (ah.1 f).1
  rw[e,f] at g
  cases g; exact d rfl
 have A:=(o.resolve_left w).2
 have:=h.le
 exact ⟨l,by rw[h.eq,Qny j,bh,b],(fun h=>by cases h),fun _=>by omega,by omega⟩
theorem PI.end_ (h:PI c block sg i s ch)(hi:c.2.2.length≤i):s=Qso c block sg:=by rw[h.eq,bz hi]; rfl
end
end Go.Proofs.YtndabgcpnmeeoaaGreat
namespace Go.Proofs.YtndabgcpnmeeoaaGreat
open Go.RowKit
set_option maxRecDepth 100000
set_option maxHeartbeats 4000000
def sgF (n:Nat)(block:List Int)(k:Nat):List UInt8:=sg0 k block++List.replicate (n - k) 0
def okB (c:DSg)(p r:Int×Bool):Bool:=Qvq c (QwJ c (JM c p r))&&(decide (0 < ((JM c p r).length:Int))&&decide (((JM c p r).length:Int) < (c.2.1.length:Int)))
def QzD (c:DSg)(p r:Int×Bool):ByteArray:=if okB c p r=true then QwJ c (JM c p r) else ⟨#[]⟩
section
variable {c:DSg}{as_:List DAr}{a:DAr}{block:List Int}{k i j n:Nat}{s:List UInt8}{u:UInt8}{p r:Int×Bool}{x:QB}
end
end Go.Proofs.YtndabgcpnmeeoaaGreat
namespace Go.Proofs.YtndabgcpnmeeoaaGreat
open Go.RowKit
set_option maxRecDepth 100000
set_option maxHeartbeats 4000000
structure SgW (c:DSg):Prop where
  sig8:c.1.length≤8
  some_:1≤c.2.1.length∧c.2.1.length≤300
  few:c.2.2.length≤4000
  arcs:∀a∈c.2.2,InR c.2.1.length a∧H0 (c.1.length:Int) (a.2.1,a.2.2.1)
theorem SgOk.w {c:DSg}(h:SgOk c):SgW c:=⟨h.sigs.2.2,h.some_,h.few,fun a b=>⟨Qa8 (h.arcs a b),(h.arcs a b).2.2.1⟩⟩
def mkV (l:Int×Bool):Int:=(if l.2=true then 2 else 1)*2 ^ (2*l.1).toNat
def orA (s:List Int)(a:DAr):List Int:=if 0≤a.2.1 then s.set a.1.toNat (((((s[a.1.toNat]?).getD 0).toNat ||| (mkV (a.2.1,a.2.2.1)).toNat:Nat)):Int) else s
def QzX (n:Nat)(as_:List DAr):List Int:=as_.foldl orA (List.replicate n 0)
def mAt (l:List Int)(x:Int):Int:=(l[x.toNat]?).getD 0
def Qvs (m:Int)(s:Int):Bool:=decide ((((m / 2 ^ (2*s).toNat).toNat &&& (3:Int).toNat:Nat):Int)=0)
def QzP (masks pair:List Int)(s:Int):Bool:= !(Qvs (mAt masks (mAt pair 0)) s==Qvs (mAt masks (mAt pair 1)) s)
def QvZ (c:DSg)(k s:Int):Bool:=c.2.2.any fun a=>decide (a.1=k∧a.2.1=s)
def cdA (c:DSg)(j:Nat):ByteArray:=(c.2.1[j]?).getD ByteArray.empty
def Qzl (c:DSg)(f:Nat→Nat→Bool)(i k:Nat):List (List Int):=((List.range k).filter fun j=>decide (i < j)&&(decide (cdA c j=cdA c i)&&f i j)).map fun j:Nat=>[(i:Int),(j:Int)]
def QyT (c:DSg)(f:Nat→Nat→Bool)(i:Nat):List (List Int):=(List.range i).flatMap fun i=>Qzl c f i c.2.1.length
def Qy0 (c:DSg)(i j:Nat):Bool:=(Qsn c.1 c.1.length).any fun s=> !(QvZ c i s==QvZ c j s)
def Qnx (c:DSg):List (List Int):=QyT c (Qy0 c) c.2.1.length
section
variable {c:DSg}{as_:List DAr}{a:DAr}{i j k n:Nat}{f g:Nat→Nat→Bool}{s x y m:Int}{l masks pair:List Int}{u v:ByteArray}
end
section
variable {c:DSg}{f:Nat→Nat→Bool}{i:Nat}{m:Int}{u v:ByteArray}
end
end Go.Proofs.YtndabgcpnmeeoaaGreat
namespace Go.Proofs.YtndabgcpnmeeoaaGreat
open Go.RowKit
set_option maxRecDepth 100000
set_option maxHeartbeats 4000000
def QyZ (c:DSg)(s:ByteArray):Bool:=c.2.2.any fun a=>QxH s a&&Qy7 c a.2.1
def Qx7 (f:DAr→Bool)(as_:List DAr)(k:Nat):List Int:=((List.range k).filter fun i=>match as_[i]? with | some a=>f a | none=>false).map fun i=>((i:Nat):Int)
def exL (c:DSg)(q sig:Int)(up:Bool):Bool:=c.2.2.any fun a=>decide (a.1=q∧a.2.1=sig∧a.2.2.1=up)
def QvW (c:DSg)(sig:Int)(up:Bool)(a:DAr):Bool:= !decide (a.2.1=sig)&&(exL c a.1 sig up&& !exL c a.2.2.2 sig up)
def Qy1 (c:DSg)(sig:Int)(a:DAr):Bool:=QvW c sig false a||QvW c sig true a
abbrev QxJ (c:DSg)(sig:Int)(k:Nat):List Int:=Qx7 (Qy1 c sig) c.2.2 k
def Qy2 (c:DSg)(k:Nat):Int:=((Qsn c.1 k).map fun s=>((QxJ c s c.2.2.length).length:Int)).sum
def QxK (c:DSg):Int:=Qy2 c c.1.length
def Qzj (sig:Int)(up:Bool)(l:List Int)(a:DAr):List Int:=if a.2.1=sig∧a.2.2.1=up then Zr ltI a.1 l else l
def exS (sig:Int)(up:Bool)(as_:List DAr):List Int:=as_.foldl (Qzj sig up) []
def QvV (c:DSg)(sig:Int)(up:Bool)(l:List Int)(k:Nat):List Int:=(Qx7 (QvW c sig up) c.2.2 k).foldl (fun l i=>Zr ltI i l) l
def QzQ (c:DSg)(sig:Int):Nat→List Int
 | 0=>[]
 | 1=>QvV c sig false [] c.2.2.length
 | _=>QvV c sig true (QvV c sig false [] c.2.2.length) c.2.2.length
section
variable {c:DSg}{as_:List DAr}{a:DAr}{i j k n:Nat}{s:ByteArray}{sig q x y:Int}{up:Bool}{l:List Int}{f g:DAr→Bool}
def QzR (c:DSg)(l:List Int):Int:=(l.map fun s=>((QxJ c s c.2.2.length).length:Int)).sum
end
end Go.Proofs.YtndabgcpnmeeoaaGreat
namespace Go.Proofs.YtndabgcpnmeeoaaGreat
open Go.RowKit
set_option maxRecDepth 100000
set_option maxHeartbeats 4000000
def Qzh (s:Int):ByteArray:=(⟨#[UInt8.ofNat (48+s).toNat]⟩:ByteArray)++(⟨#[44]⟩:ByteArray)
def QzM (c:DSg)(q:Int)(i:Nat):ByteArray:=((Qsn c.1 i).filter fun s=>QvZ c q s).foldl (fun b s=>b++Qzh s) (⟨#[]⟩:ByteArray)
section
variable {c:DSg}{as_:List DAr}{a:DAr}{i j k n:Nat}{s q:Int}{z:QB}
end
section
variable [∀c,Decidable (SgOk c)][∀s,Decidable (KJ s)]{c:DSg}{x:(Int×Bool)×Int×Bool}
abbrev Qye (c:DSg)(x:(Int×Bool)×Int×Bool):ByteArray:=QwJ c (JM c x.1 x.2)
abbrev Qv9 (c:DSg)(x:(Int×Bool)×Int×Bool):(DSg×List Int)×Bool:=Qy8 c (Qzp c) (Qye c x)
def QxQ (c:DSg)(x:(Int×Bool)×Int×Bool):Bool:=okB c x.1 x.2&& !QyZ c (Qye c x)
def Qkt (c:DSg)(x:(Int×Bool)×Int×Bool):DSg×Bool:=
 if QxQ c x=true then ((Qv9 c x).1.1,(Qv9 c x).2&&decide (QxK (Qv9 c x).1.1≤QxK c)) else (QaW,false)
def Qxv (c:DSg)(x:(Int×Bool)×Int×Bool):Prop:=((SgOk c∧(0≤x.1.1∧x.1.1≤(c.1.length:Int) - 1))∧(0≤x.2.1∧x.2.1≤(c.1.length:Int) - 1))∧¬x.1=x.2
instance:Decidable (Qxv c x):=inferInstanceAs (Decidable (_∧_))
def Qvg (c:DSg)(x:(Int×Bool)×Int×Bool):Bool:=decide (Qxv c x)&&(Qkt c x).2
def QzA (c:DSg)(x:(Int×Bool)×Int×Bool):Int:=if Qvg c x=true then ((Qnx (Qkt c x).1).length:Int) else 0
def QzB (c:DSg)(x:(Int×Bool)×Int×Bool):Int:=if Qvg c x=true then ((Qkt c x).1.2.1.length:Int) else 0
end
end Go.Proofs.YtndabgcpnmeeoaaGreat
namespace Go.Proofs.YtndabgcpnmeeoaaGreat
open Go.RowKit
set_option maxRecDepth 100000
set_option maxHeartbeats 4000000
abbrev WE:=(Int×Bool)×Int×Bool
def Qvj (k:Nat):List (Int×Bool):=(List.range k).flatMap fun i=>[(((i:Nat):Int),false),(((i:Nat):Int),true)]
section
variable {k:Nat}
end
section
variable [∀c,Decidable (SgOk c)][∀s,Decidable (KJ s)]{c:DSg}{a b:Int×Bool}{i j k n:Nat}{x:WE}{L:List (Int×Bool)}
def isX (c:DSg)(a b:Int×Bool):Bool:= !decide (a=b)&&(Qkt c (a,b)).2
def Qzm (c:DSg)(a:Int×Bool)(l:List (Int×Bool)):List WE:=(l.filter fun b=>isX c a b).map fun b=>(a,b)
def QyY (c:DSg)(L l:List (Int×Bool)):List WE:=l.flatMap fun a=>Qzm c a L
abbrev QxF (c:DSg):List WE:=QyY c (Qvj c.1.length) (Qvj c.1.length)
abbrev QzF (c:DSg)(l:List WE):List (WE×DSg):=l.map fun x=>(x,(Qkt c x).1)
def Qrl (c:DSg)(x:WE):Int:=((Qnx (Qkt c x).1).length:Int)
def QvU (c:DSg)(x:WE):Int:=((Qkt c x).1.2.1.length:Int)
def QyV (c:DSg)(m:Option WE)(x:WE):Option WE:=match m with
 | none=>some x
 | some y=>if Qrl c x < Qrl c y∨(Qrl c x=Qrl c y∧QvU c x < QvU c y) then some x else some y
def oC (c:DSg):Option WE→WE×DSg
 | some x=>(x,(Qkt c x).1)
 | none=>(((0,false),0,false),([],[],[]))
def oF (c:DSg)(d:Int):Option WE→Int
 | some x=>Qrl c x
 | none=>d
def oS (c:DSg):Option WE→Int
 | some x=>QvU c x
 | none=>0
def QgC (c:DSg)(l:List WE):Option WE:=l.foldl (QyV c) none
def Qxy (c:DSg)(l:List WE):WE:=(QgC c l).getD ((0,false),0,false)
def Qzw (c:DSg)(l:List WE):WE×DSg:=oC c (QgC c l)
def Qzx (c:DSg)(l:List WE):Int:=oF c 0 (QgC c l)
def Qzy (c:DSg)(l:List WE):Int:=oF c (-1) (QgC c l)
def Qzz (c:DSg)(l:List WE):Int:=oS c (QgC c l)
def QzO (c:DSg):WE:=if SgOk c then Qxy c (QxF c) else ((0,false),0,false)
def QzN (c:DSg):Bool:=decide (SgOk c)&&(QgC c (QxF c)).isSome
section
variable {l:List WE}{y cand:WE×DSg}{few st:Int}{fnd:Bool}{bx:WE}
end
end
end Go.Proofs.YtndabgcpnmeeoaaGreat
namespace Go.Proofs.YtndabgcpnmeeoaaGreat
open Go.RowKit
attribute [local irreducible] TF
abbrev Qd5:Type:=Q9×Q9
abbrev QwT:Ty:= .pr XP XP
end Go.Proofs.YtndabgcpnmeeoaaGreat
namespace Go.Proofs.YtndabgcpnmeeoaaGreat
open Go.RowKit
set_option maxRecDepth 100000
set_option maxHeartbeats 4000000
@[reducible] def Qvi:(Qd5)→Int→(Qd5)×Int:=fun _ k=>(((k,decide ((k+1) % 3=0)),(k+1+1,decide ((k+1+1+1) % 3=0))),k+1+1+1+1)
end Go.Proofs.YtndabgcpnmeeoaaGreat
