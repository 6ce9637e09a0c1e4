/- Walks over abstract states: partitions of state graphs. -/
import Derived.Test.YtnakmhfjafecpaaGreatVb
set_option linter.unusedSimpArgs false
set_option linter.unusedVariables false
set_option linter.unusedSectionVars false
namespace Go.Proofs.YtnakmhfjafecpaaGreat
open Go.RowKit
set_option maxRecDepth 100000
set_option maxHeartbeats 4000000
theorem QcX (s:ByteArray)[Decidable (ZZ s)]:FC Tryz.prog 221 [(false,[dS s])] [] 0 (Zy (lf (dB (decide (ZZ s))))):=QeX fun gh w vs h=>by
  obtain ⟨v,rfl,hr⟩:=h.leaf1
  obtain ⟨rfl,hs⟩:=hr.str_
  exact (Qc2 s w hs).mono fun _ _ h=>HO h
theorem Qc3 (s:ByteArray)[Decidable (ZZ s)]:FC Tryz.prog 200 [(false,[dS s])] [] 0 (Zy (lf (dB (decide (ZZ s))))):=QeX fun gh w vs h=>by
  obtain ⟨v,rfl,hr⟩:=h.leaf1
  obtain ⟨rfl,hs⟩:=hr.str_
  exact (Qb9 s w hs).mono fun _ _ h=>HO h
def Yv (a b:UInt8):Bool:=decide (a=b)||(decide (a=48)&&decide (b=43))||(decide (a=43)&&decide (b=49))||(decide (a=49)&&decide (b=45))||(decide (a=45)&&decide (b=48))||(decide (a=43)&&decide (b=45))||(decide (a=45)&&decide (b=43))
def Ql7 (s:ByteArray):Prop:=∀x∈s.toList,x=48∨x=43∨x=49∨x=45
instance (s:ByteArray):Decidable (Ql7 s):=inferInstanceAs (Decidable (∀x∈s.toList,x=48∨x=43∨x=49∨x=45))
def SignsOk (c:DSg)(s:ByteArray):Prop:=Ql7 s∧s.size=c.2.1.length∧SgOk c
instance (c:DSg) (s:ByteArray) [Decidable (SgOk c)]:Decidable (SignsOk c s):=inferInstanceAs (Decidable (_∧_))
def Xx (c:DSg)(s:ByteArray):Bool:=c.2.2.all fun a=>Yv (bAt s a.1) (bAt s a.2.2.2)
def Zs (s:ByteArray)(a:DAr):Bool:=(decide (bAt s a.1=43)&&(decide (bAt s a.2.2.2=49)||decide (bAt s a.2.2.2=45)))||(decide (bAt s a.1=45)&&(decide (bAt s a.2.2.2=48)||decide (bAt s a.2.2.2=43)))
def okP (c:DSg)(s:ByteArray)[Decidable (SgOk c)]:Bool:=decide (SignsOk c s)&&Xx c s
theorem Qe4 {c:DSg}{s:ByteArray}[Decidable (SgOk c)]:okP c s=true↔SignsOk c s∧Xx c s=true:=by unfold okP; rw[Bool.and_eq_true,decide_eq_true_eq]
theorem QiQ {c:DSg}{s:ByteArray}[Decidable (SgOk c)](h:¬SignsOk c s):false=okP c s:=by unfold okP; rw[decide_eq_false h]; rfl
theorem Qjy {c:DSg}{s:ByteArray}[Decidable (SgOk c)](h:SignsOk c s):Xx c s=okP c s:=by unfold okP; rw[decide_eq_true h]; rfl
def Yl (as_:List DAr)(q:Int):List DAr:=as_.filter fun a=>decide (a.1=q)
def Xu:ByteArray:=⟨#[48,43,49,45,48]⟩
theorem ba2 {a b c d:UInt8}:(⟨#[a,b]⟩:ByteArray)=⟨#[c,d]⟩↔a=c∧b=d:=by simp[ByteArray.mk.injEq]
section
variable {a b x:UInt8}{k i:Nat}{s:ByteArray}{c:DSg}{l:List DAr}{e:DAr}{q:Int}
theorem K0 (k:Nat)(h:k < 5):bAt Xu (k:Int)=[(48:UInt8),43,49,45,48][k]! :=by
  match k,h with
  | 0,_=>rfl
  | 1,_=>rfl
  | 2,_=>rfl
  | 3,_=>rfl
  | 4,_=>rfl
theorem QmC (hk:(k:Int)+1 < 5)(h1:bAt Xu (k:Int)=a)(h2:bAt Xu ((k:Int)+1)=b):true=Yv a b:=by
  rw[show ((k:Int)+1)=((k+1:Nat):Int) by omega,K0 _ (by omega)] at h2
  rw[K0 _ (by omega)] at h1
  subst h1 h2
  match k,hk with
  | 0,_=>rfl
  | 1,_=>rfl
  | 2,_=>rfl
  | 3,_=>rfl
  | n+4,h=>omega
theorem QmL (h0:¬(a=48∧b=43))(h1:¬(a=43∧b=49))(h2:¬(a=49∧b=45))(h3:¬(a=45∧b=48))(h4:¬(a=43∧b=45))(h5:¬(a=45∧b=43)):decide (a=b)=Yv a b:=by
  have f:∀{p q:UInt8},¬(a=p∧b=q)→(decide (a=p)&&decide (b=q))=false:=fun {p q} h=>by
    rw[Bool.and_eq_false_iff,decide_eq_false_iff_not,decide_eq_false_iff_not]
    by_cases e:a=p
    · exact .inr fun e2=>h ⟨e,e2⟩
    · exact .inl e
  unfold Yv
  rw[f h0,f h1,f h2,f h3,f h4,f h5]
  simp
theorem Qnv (hN:∀j:Nat,j < k→¬(bAt Xu (j:Int)=a∧bAt Xu ((j:Int)+1)=b))(hk:¬(k:Int)+1 < 5)(h1:¬(a=43∧b=45))(h2:¬(a=45∧b=43)):decide (a=b)=Yv a b:=by
  have g:∀j:Nat,j < 4→¬([(48:UInt8),43,49,45,48][j]! =a∧[(48:UInt8),43,49,45,48][j+1]! =b):=fun j hj h=>by
    refine hN j (by omega) ?_
    rw[show ((j:Int)+1)=((j+1:Nat):Int) by omega,K0 _ (by omega),K0 _ (by omega)]
    exact h
  have g0:¬(48=a∧43=b):=g 0 (by omega)
  have g1:¬(43=a∧49=b):=g 1 (by omega)
  have g2:¬(49=a∧45=b):=g 2 (by omega)
  have g3:¬(45=a∧48=b):=g 3 (by omega)
  exact QmL (fun h=>g0 ⟨h.1.symm,h.2.symm⟩) (fun h=>g1 ⟨h.1.symm,h.2.symm⟩) (fun h=>g2 ⟨h.1.symm,h.2.symm⟩) (fun h=>g3 ⟨h.1.symm,h.2.symm⟩) h1 h2
theorem Qei (hN:∀j:Nat,j < k→¬(bAt Xu (j:Int)=a∧bAt Xu ((j:Int)+1)=b))(h:¬(bAt Xu (k:Int)=a∧bAt Xu ((k:Int)+1)=b)):∀j:Nat,j < k+1→¬(bAt Xu (j:Int)=a∧bAt Xu ((j:Int)+1)=b):=fun j hj=>by
  by_cases e:j=k
  · subst e; exact h
  · exact hN j (by omega)
theorem Wb (hB:∀j,j < k→∀x,s.toList[j]? =some x→x=48∨x=43∨x=49∨x=45)(hx:s[((k:Int)).toNat]? =some x)(h:x=48∨x=43∨x=49∨x=45):∀j,j < k+1→∀x,s.toList[j]? =some x→x=48∨x=43∨x=49∨x=45:=fun j hj d hd=>by
  by_cases e:j=k
  · subst e; rw[Hr hx] at hd; cases hd; exact h
  · exact hB j (by omega) d hd
theorem QfK (hB:∀j,j < k→∀x,s.toList[j]? =some x→x=48∨x=43∨x=49∨x=45)(hk:s.size≤k):Ql7 s:=fun x hx=>by
  obtain ⟨j,hj⟩:=List.mem_iff_getElem?.1 hx
  have:=(List.getElem?_eq_some_iff.1 hj).1
  rw[WB] at this
  exact hB j (by omega) x hj
section
variable [Decidable (SignsOk c s)]
theorem QdK (hx:s[((k:Int)).toNat]? =some x)(h:¬(x=48∨x=43∨x=49∨x=45)):false=decide (SignsOk c s):=(decide_eq_false fun g=>h (g.1 x (List.mem_of_getElem? (Hr hx)))).symm
theorem QkW (h:¬(s.size:Int)=(c.2.1.length:Int)):false=decide (SignsOk c s):=(decide_eq_false fun g=>h (by rw[g.2.1])).symm
theorem Qkr (h:¬SgOk c):false=decide (SignsOk c s):=(decide_eq_false fun g=>h g.2.2).symm
theorem QkP [Decidable (SgOk c)](hB:∀j,j < k→∀x,s.toList[j]? =some x→x=48∨x=43∨x=49∨x=45)(hk:s.size≤k)(h:(s.size:Int)=(c.2.1.length:Int)):decide (SgOk c)=decide (SignsOk c s):=decide_eq_decide.2 ⟨fun g=>⟨QfK hB hk,by omega,g⟩,fun g=>g.2.2⟩
theorem Qhs (hB:∀j,j < k→∀x,s.toList[j]? =some x→x=48∨x=43∨x=49∨x=45)(hk:s.size≤k)(g:SgOk c):decide ((s.size:Int)=(c.2.1.length:Int))=decide (SignsOk c s):=decide_eq_decide.2 ⟨fun h=>⟨QfK hB hk,by omega,g⟩,fun g=>by rw[g.2.1]⟩
end
theorem SignsOk.at_ (h:SignsOk c s)(ha:e∈c.2.2):(0≤e.1∧e.1 < (s.size:Int))∧0≤e.2.2.2∧e.2.2.2 < (s.size:Int):=by
  have h1:=XG (h.2.2.arcs e ha)
  rw[h.2.1]
  exact h1
theorem QnY:(!(c.2.2.any fun a=> !Yv (bAt s a.1) (bAt s a.2.2.2)))=Xx c s:=by
  unfold Xx
  rw[Bool.eq_iff_iff,Bool.not_eq_true',List.any_eq_false,List.all_eq_true]
  constructor
  · intro h a ha; have:=h a ha; simpa using this
  · intro h a ha; have:=h a ha; simpa using this
theorem QnZ (hx:c.2.2[k]? =some e)(h:Yv (bAt s e.1) (bAt s e.2.2.2)=false):false=Xx c s:=by
  refine (List.all_eq_false.2 ⟨e,List.mem_of_getElem? hx, ?_⟩).symm
  rw[h]; decide
theorem QlB (hP:∀j,j < k→∀a,c.2.2[j]? =some a→Yv (bAt s a.1) (bAt s a.2.2.2)=true)(hk:c.2.2.length≤k):true=Xx c s:=(List.all_eq_true.2 fun a ha=>by
  obtain ⟨j,hj⟩:=List.mem_iff_getElem?.1 ha
  have:=(List.getElem?_eq_some_iff.1 hj).1
  exact hP j (by omega) a hj).symm
theorem QkA (hP:∀j,j < k→∀a,c.2.2[j]? =some a→Yv (bAt s a.1) (bAt s a.2.2.2)=true)(hx:c.2.2[k]? =some e)(h:Yv (bAt s e.1) (bAt s e.2.2.2)=true):∀j,j < k+1→∀a,c.2.2[j]? =some a→Yv (bAt s a.1) (bAt s a.2.2.2)=true:=fun j hj a ha=>by
  by_cases e2:j=k
  · subst e2; rw[hx] at ha; cases ha; exact h
  · exact hP j (by omega) a ha
theorem QfE (hx:l[i]? =some e)(h:e.1=q):Yl (l.take i) q++[e]=Yl (l.take (i+1)) q:=by
  unfold Yl
  rw[Za hx,List.filter_append]; simp[h]
theorem Qjb (hx:l[i]? =some e)(h:¬e.1=q):Yl (l.take i) q=Yl (l.take (i+1)) q:=by
  unfold Yl
  rw[Za hx,List.filter_append]; simp[h]
theorem Ht:(Yl l q).length≤l.length:=List.length_filter_le ..
theorem QcM:e∈Yl l q↔e∈l∧e.1=q:=by unfold Yl; rw[List.mem_filter,decide_eq_true_eq]
end
theorem J9 (a:UInt8)(b:UInt8):FC Tryz.prog 268 [(false,[.dat .u8 a]),(false,[.dat .u8 b])] [] 0 (Zy (lB (Yv a b))):=by
 refine QQ Tryz.func268 rfl rfl Tryz.ntmps268 fun O_ hO w0_ N0_ X_ h0_ f0_=> ?_
 iterate 7 refine w_ ?_
 refine lc (Qk 0 (e:= .u8) Zc ZA Qco rfl ⟨_,_,rfl,(Qb rfl),⟨_,_,rfl,(Qb rfl),rfl⟩⟩ (List.all_eq_true.1 rfl) ⟨_,_,_,_,rfl,⟨rfl,rfl⟩,⟨_,_,_,_,rfl,⟨rfl,rfl⟩,⟨rfl,rfl⟩,rfl⟩,rfl⟩ (by decide) rfl rfl (Fresh.of rfl) (nlr rfl))<|lc (ZS (ys:=[a,b]) (Xd (Qa rfl) rfl) Zc VX Zd rfl) ?_
 iterate 7 refine w_ ?_
 cases hb1:(decide ((⟨#[a,b]⟩:ByteArray)=(⟨#[48,43]⟩:ByteArray)))
 ·have hb1':=of_decide_eq_false hb1
  iterate 5 refine w_ ?_
  cases hb2:(decide ((⟨#[a,b]⟩:ByteArray)=(⟨#[43,49]⟩:ByteArray)))
  ·have hb2':=of_decide_eq_false hb2
   iterate 5 refine w_ ?_
   cases hb3:(decide ((⟨#[a,b]⟩:ByteArray)=(⟨#[49,45]⟩:ByteArray)))
   ·have hb3':=of_decide_eq_false hb3
    iterate 5 refine w_ ?_
    cases hb4:(decide ((⟨#[a,b]⟩:ByteArray)=(⟨#[45,48]⟩:ByteArray)))
    ·have hb4':=of_decide_eq_false hb4
     iterate 5 refine w_ ?_
     cases hb5:(decide ((⟨#[a,b]⟩:ByteArray)=(⟨#[43,45]⟩:ByteArray)))
     ·have hb5':=of_decide_eq_false hb5
      iterate 5 refine w_ ?_
      cases hb6:(decide ((⟨#[a,b]⟩:ByteArray)=(⟨#[45,43]⟩:ByteArray)))
      ·have hb6':=of_decide_eq_false hb6
       refine w_ ?_
       refine AC.skip ?_
       refine (?_:AC _ _ _ _ _)
       iterate 6 refine w_ ?_
       refine Qe ?_
       subst hO
       have e7:(decide (a=b):Bool)=(Yv a b):=by
        exact QmL (fun h=>by have:=ba2.2 h; contradiction) (fun h=>by have:=ba2.2 h; contradiction) (fun h=>by have:=ba2.2 h; contradiction) (fun h=>by have:=ba2.2 h; contradiction) (fun h=>by have:=ba2.2 h; contradiction) (fun h=>by have:=ba2.2 h; contradiction)
       exact Qg (Qd rfl (Qc rfl)) ((congrArg (fun z_=>lB z_) e7)) rfl
      ·have hb6':=of_decide_eq_true hb6
       iterate 4 refine w_ ?_
       refine Qe ?_
       subst hO
       have e8:(true:Bool)=(Yv a b):=by
        (unfold Yv; simp only[ba2] at*; simp_all; done)
       exact Qg (Qd rfl (Qc rfl)) ((congrArg (fun z_=>lB z_) e8)) rfl
     ·have hb5':=of_decide_eq_true hb5
      iterate 6 refine w_ ?_
      refine Qe ?_
      subst hO
      have e9:(true:Bool)=(Yv a b):=by
       (unfold Yv; simp only[ba2] at*; simp_all; done)
      exact Qg (Qd rfl (Qc rfl)) ((congrArg (fun z_=>lB z_) e9)) rfl
    ·have hb4':=of_decide_eq_true hb4
     iterate 6 refine w_ ?_
     refine Qe ?_
     subst hO
     have e10:(true:Bool)=(Yv a b):=by
      (unfold Yv; simp only[ba2] at*; simp_all; done)
     exact Qg (Qd rfl (Qc rfl)) ((congrArg (fun z_=>lB z_) e10)) rfl
   ·have hb3':=of_decide_eq_true hb3
    iterate 6 refine w_ ?_
    refine Qe ?_
    subst hO
    have e11:(true:Bool)=(Yv a b):=by
     (unfold Yv; simp only[ba2] at*; simp_all; done)
    exact Qg (Qd rfl (Qc rfl)) ((congrArg (fun z_=>lB z_) e11)) rfl
  ·have hb2':=of_decide_eq_true hb2
   iterate 6 refine w_ ?_
   refine Qe ?_
   subst hO
   have e12:(true:Bool)=(Yv a b):=by
    (unfold Yv; simp only[ba2] at*; simp_all; done)
   exact Qg (Qd rfl (Qc rfl)) ((congrArg (fun z_=>lB z_) e12)) rfl
 ·have hb1':=of_decide_eq_true hb1
  iterate 6 refine w_ ?_
  refine Qe ?_
  subst hO
  have e13:(true:Bool)=(Yv a b):=by
   (unfold Yv; simp only[ba2] at*; simp_all; done)
  exact Qg (Qd rfl (Qc rfl)) ((congrArg (fun z_=>lB z_) e13)) rfl
theorem Qbo (a:UInt8)(b:UInt8):FC Tryz.prog 258 [(false,[.dat .u8 a]),(false,[.dat .u8 b])] [] 0 (Zy (lB (Yv a b))):=by
 have hrs:(⟨#[48,43,49,45,48]⟩:ByteArray).size=5:=rfl
 refine QQ Tryz.func258 rfl rfl Tryz.ntmps258 fun O_ hO w0_ N0_ X_ h0_ f0_=> ?_
 iterate 6 refine w_ ?_
 refine Hy (fun s_=>(¬(a=43∧b=45))∧(¬(a=45∧b=43))∧s_=⟨[(0,lf (.dat .u8 a)),(1,lf (.dat .u8 b)),(5,lf (dS (⟨#[48,43,49,45,48]⟩:ByteArray)))],[]⟩) ?_ fun J1=> ?_
 ·rintro s_ ⟨hq1,hq2,rfl⟩
  iterate 5 refine w_ ?_
  refine Qy (fun m_ s_=>∃(k:Nat),k≤5∧m_=5 - k∧(∀j:Nat,j < k→¬(bAt Xu (j:Int)=a∧bAt Xu ((j:Int)+1)=b))∧s_=⟨[(0,lf (.dat .u8 a)),(1,lf (.dat .u8 b)),(5,lf (dS (⟨#[48,43,49,45,48]⟩:ByteArray))),(6,lI (k:Int))],[]⟩) ⟨0,Nat.zero_le _,rfl,(fun j hj=>absurd hj (Nat.not_lt_zero j)),rfl⟩ ?_ ?_
  · exact Wk.of [] rfl ⟨rfl,rfl,rfl,rfl,trivial⟩ trivial rfl rfl
  rintro m_ s_ ⟨k,hk2,hm3,hN,rfl⟩
  iterate 5 refine w_ ?_
  refine AL.fact (Xh (x:= .tmp 23) (Qa rfl)) fun hl4=>lc (Xg (Qa rfl) rfl Zd) ?_
  iterate 2 refine w_ ?_
  cases hb5:(decide (((k:Int)+1) < ((⟨#[48,43,49,45,48]⟩:ByteArray).size:Int)))
  ·have hb5':=of_decide_eq_false hb5
   refine w_ ?_
   refine QA ?_
   refine (?_:AC _ _ _ _ _)
   iterate 6 refine w_ ?_
   refine Qe ?_
   subst hO
   have e6:(decide (a=b):Bool)=(Yv a b):=by
    exact Qnv hN (by omega) hq1 hq2
   exact Qg (Qd rfl (Qc rfl)) ((congrArg (fun z_=>lB z_) e6)) rfl
  ·have hb5':=of_decide_eq_true hb5
   iterate 7 refine w_ ?_
   obtain ⟨c7,hc8⟩:∃z,(⟨#[48,43,49,45,48]⟩:ByteArray)[((k:Int)).toNat]? =some z:=⟨_,getElem?_pos _ _ (by omega)⟩
   refine lc (QH (Qa rfl) (Qa rfl) rfl Zd (by omega) hc8) ?_
   iterate 3 refine w_ ?_
   cases hb9:(decide (c7=a))
   ·have hb9':=of_decide_eq_false hb9
    iterate 9 refine w_ ?_
    refine AC.skip ?_
    refine (?_:AC _ _ _ _ _)
    iterate 4 refine w_ ?_
    refine Qj<|QS ⟨k+1,by omega,rfl,(Qei hN (fun h=>by obtain ⟨h1,h2⟩:=h; rw[show Xu=(⟨#[48,43,49,45,48]⟩:ByteArray) from rfl] at h1 h2; first | (rw[QL (by assumption)] at h1; contradiction) | (rw[QL (by assumption)] at h2; contradiction))),rfl⟩ (by omega) ?_
    exact Wk.of [] rfl ⟨rfl,rfl,rfl,rfl,trivial⟩ trivial rfl rfl
   ·have hb9':=of_decide_eq_true hb9
    iterate 3 refine w_ ?_
    obtain ⟨c10,hc11⟩:∃z,(⟨#[48,43,49,45,48]⟩:ByteArray)[((k:Int)+1).toNat]? =some z:=⟨_,getElem?_pos _ _ (by omega)⟩
    refine lgy rfl rfl (QH (Qa rfl) (Qa rfl) rfl Zd (by omega) hc11) ?_
    iterate 4 refine w_ ?_
    cases hb12:(decide (c10=b))
    ·have hb12':=of_decide_eq_false hb12
     refine w_ ?_
     refine AC.skip ?_
     refine (?_:AC _ _ _ _ _)
     iterate 4 refine w_ ?_
     refine Qj<|QS ⟨k+1,by omega,rfl,(Qei hN (fun h=>by obtain ⟨h1,h2⟩:=h; rw[show Xu=(⟨#[48,43,49,45,48]⟩:ByteArray) from rfl] at h1 h2; first | (rw[QL (by assumption)] at h1; contradiction) | (rw[QL (by assumption)] at h2; contradiction))),rfl⟩ (by omega) ?_
     exact Wk.of [] rfl ⟨rfl,rfl,rfl,rfl,trivial⟩ trivial rfl rfl
    ·have hb12':=of_decide_eq_true hb12
     iterate 4 refine w_ ?_
     refine Qe ?_
     subst hO
     have e13:(true:Bool)=(Yv a b):=by
      exact QmC (k:=k) (by omega) ((QL (m:=Xu) (by assumption)).trans (by assumption)) ((QL (m:=Xu) (by assumption)).trans (by assumption))
     exact Qg (Qd rfl (Qc rfl)) ((congrArg (fun z_=>lB z_) e13)) rfl
 ·iterate 3 refine w_ ?_
  refine lc (QG (Qa rfl) (QW 43 rfl) rfl) ?_
  refine w_ ?_
  cases hb14:(decide (a=43))
  ·have hb14':=of_decide_eq_false hb14
   iterate 5 refine w_ ?_
   refine lgy rfl rfl (QG (Qa rfl) (QW 45 rfl) rfl) ?_
   refine w_ ?_
   cases hb15:(decide (a=45))
   ·have hb15':=of_decide_eq_false hb15
    iterate 7 refine w_ ?_
    refine VI (J1 _ ⟨(fun h=>by obtain ⟨h1,h2⟩:=h; contradiction),(fun h=>by obtain ⟨h1,h2⟩:=h; contradiction),rfl⟩) ?_
    exact Wk.of [] rfl ⟨rfl,rfl,rfl,trivial⟩ trivial rfl rfl
   ·have hb15':=of_decide_eq_true hb15
    refine w_ ?_
    refine lgy rfl rfl (QG (Qa rfl) (QW 43 rfl) rfl) ?_
    iterate 3 refine w_ ?_
    cases hb16:(decide (b=43))
    ·have hb16':=of_decide_eq_false hb16
     iterate 2 refine w_ ?_
     refine VI (J1 _ ⟨(fun h=>by obtain ⟨h1,h2⟩:=h; contradiction),(fun h=>by obtain ⟨h1,h2⟩:=h; contradiction),rfl⟩) ?_
     exact Wk.of [] rfl ⟨rfl,rfl,rfl,trivial⟩ trivial rfl rfl
    ·have hb16':=of_decide_eq_true hb16
     iterate 4 refine w_ ?_
     refine Qe ?_
     subst hO
     have e17:(true:Bool)=(Yv a b):=by
      (unfold Yv; simp_all; done)
     exact Qg (Qd rfl (Qc rfl)) ((congrArg (fun z_=>lB z_) e17)) rfl
  ·have hb14':=of_decide_eq_true hb14
   refine w_ ?_
   refine lgy rfl rfl (QG (Qa rfl) (QW 45 rfl) rfl) ?_
   iterate 2 refine w_ ?_
   cases hb18:(decide (b=45))
   ·have hb18':=of_decide_eq_false hb18
    refine w_ ?_
    refine lgy rfl rfl (QG (Qa rfl) (QW 45 rfl) rfl) ?_
    refine w_ ?_
    have hb19:(decide (a=45))=false:=decide_eq_false fun h_=>absurd ((of_decide_eq_true (hb14)).symm.trans h_) (by decide)
    have hb19':=of_decide_eq_false hb19
    try rw[hb19]
    iterate 7 refine w_ ?_
    refine VI (J1 _ ⟨(fun h=>by obtain ⟨h1,h2⟩:=h; contradiction),(fun h=>by obtain ⟨h1,h2⟩:=h; contradiction),rfl⟩) ?_
    exact Wk.of [] rfl ⟨rfl,rfl,rfl,trivial⟩ trivial rfl rfl
   ·have hb18':=of_decide_eq_true hb18
    iterate 3 refine w_ ?_
    refine Qo rfl rfl rfl ?_ rfl
    refine Qo rfl rfl rfl ?_ rfl
    iterate 7 refine w_ ?_
    refine Qe ?_
    subst hO
    have e20:(true:Bool)=(Yv a b):=by
     (unfold Yv; simp_all; done)
    exact Qg (Qd rfl (Qc rfl)) ((congrArg (fun z_=>lB z_) e20)) rfl
theorem Xm (a:Int×Int×Bool×Int)(s:ByteArray)(h1:0≤a.1∧a.1 < (s.size:Int))(h2:0≤a.2.2.2∧a.2.2.2 < (s.size:Int)):FC Tryz.prog 135 [(true,[dI a.1,dI a.2.1,dB a.2.2.1,dI a.2.2.2]),(false,[dS s])] [] 0 (Zy (lB (Zs s a))):=by
 refine QQ Tryz.func135 rfl rfl Tryz.ntmps135 fun O_ hO w0_ N0_ X_ h0_ f0_=> ?_
 refine AC.fact (Q3 (x:= .tmp 0) (i:=0) (Qb rfl) rfl) fun hi1=>AC.fact (Q3 (x:= .tmp 0) (i:=1) (Qb rfl) rfl) fun hi2=>AC.fact (Q3 (x:= .tmp 0) (i:=3) (Qb rfl) rfl) fun hi3=> ?_
 refine w_ ?_
 refine lc (Qr 0 (Qb rfl) rfl rfl (Fresh.of rfl) (nlr rfl)) ?_
 iterate 2 refine w_ ?_
 obtain ⟨c4,hc5⟩:∃z,s[(a.1).toNat]? =some z:=⟨_,getElem?_pos _ _ (by omega)⟩
 obtain ⟨c6,hc7⟩:∃z,s[(a.2.2.2).toNat]? =some z:=⟨_,getElem?_pos _ _ (by omega)⟩
 refine dw [io 7 (lf (dS s)),io 8 (lP 0 0),io 9 (lI a.1),io 10 (lf (.dat .u8 c4)),io 11 (lf (dS s)),io 12 (lP 0 3),io 13 (lI a.2.2.2),io 14 (lf (.dat .u8 c6)),io 5 (lf (.dat .u8 c4)),io 6 (lf (.dat .u8 c6))] [0,0,2,7,0,0,32,112,15,511] mixed rfl (by kernel_rfl) ⟨dxm rfl rfl,dxf Zr rfl rfl rfl,dxl QD rfl rfl rfl rfl rfl,fun _ h_=>ac (QH (h_.v rfl) (h_.v rfl) rfl Zd (by omega) hc5) rfl,dxm rfl rfl,dxf Zg rfl rfl rfl,dxl QD rfl rfl rfl rfl rfl,fun _ h_=>ac (QH (h_.v rfl) (h_.v rfl) rfl Zd (by omega) hc7) rfl,dxt rfl rfl,dxt rfl rfl,⟨⟩⟩ ?_
 iterate 2 refine w_ ?_
 refine lc (QG (Qa rfl) (QW 43 rfl) rfl) ?_
 refine w_ ?_
 cases hb8:(decide (c4=43))
 ·have hb8':=of_decide_eq_false hb8
  iterate 3 refine w_ ?_
  refine Qo rfl rfl rfl ?_ rfl
  refine Qo rfl rfl rfl ?_ rfl
  iterate 4 refine w_ ?_
  refine lgy rfl rfl (QG (Qa rfl) (QW 45 rfl) rfl) ?_
  refine w_ ?_
  cases hb9:(decide (c4=45))
  ·have hb9':=of_decide_eq_false hb9
   iterate 3 refine w_ ?_
   refine Qo rfl rfl rfl ?_ rfl
   refine Qo rfl rfl rfl ?_ rfl
   iterate 5 refine w_ ?_
   refine Qe ?_
   subst hO
   have e10:(false:Bool)=(Zs s a):=by
    (unfold Zs; rw[QL (p:=a.1) (by assumption),QL (p:=a.2.2.2) (by assumption)]; simp_all; done)
   exact Qg (Qd rfl (Qc rfl)) ((congrArg (fun z_=>lB z_) e10)) rfl
  ·have hb9':=of_decide_eq_true hb9
   refine w_ ?_
   refine lgy rfl rfl (QG (Qa rfl) (QW 48 rfl) rfl) ?_
   refine w_ ?_
   cases hb11:(decide (c6=48))
   ·have hb11':=of_decide_eq_false hb11
    refine w_ ?_
    refine lgy rfl rfl (QG (Qa rfl) (QW 43 rfl) rfl) ?_
    iterate 5 refine w_ ?_
    refine Qe ?_
    subst hO
    have e12:(decide (c6=43):Bool)=(Zs s a):=by
     (unfold Zs; rw[QL (p:=a.1) (by assumption),QL (p:=a.2.2.2) (by assumption)]; simp_all; done)
    exact Qg (Qd rfl (Qc rfl)) ((congrArg (fun z_=>lB z_) e12)) rfl
   ·have hb11':=of_decide_eq_true hb11
    iterate 7 refine w_ ?_
    refine Qe ?_
    subst hO
    have e13:(true:Bool)=(Zs s a):=by
     (unfold Zs; rw[QL (p:=a.1) (by assumption),QL (p:=a.2.2.2) (by assumption)]; simp_all; done)
    exact Qg (Qd rfl (Qc rfl)) ((congrArg (fun z_=>lB z_) e13)) rfl
 ·have hb8':=of_decide_eq_true hb8
  refine w_ ?_
  refine lgy rfl rfl (QG (Qa rfl) (QW 49 rfl) rfl) ?_
  refine w_ ?_
  cases hb14:(decide (c6=49))
  ·have hb14':=of_decide_eq_false hb14
   refine w_ ?_
   refine lgy rfl rfl (QG (Qa rfl) (QW 45 rfl) rfl) ?_
   iterate 3 refine w_ ?_
   cases hb15:(decide (c6=45))
   ·have hb15':=of_decide_eq_false hb15
    refine w_ ?_
    refine lgy rfl rfl (QG (Qa rfl) (QW 45 rfl) rfl) ?_
    refine w_ ?_
    have hb16:(decide (c4=45))=false:=decide_eq_false fun h_=>absurd ((of_decide_eq_true (hb8)).symm.trans h_) (by decide)
    have hb16':=of_decide_eq_false hb16
    try rw[hb16]
    iterate 3 refine w_ ?_
    refine Qo rfl rfl rfl ?_ rfl
    refine Qo rfl rfl rfl ?_ rfl
    iterate 5 refine w_ ?_
    refine Qe ?_
    subst hO
    have e17:(false:Bool)=(Zs s a):=by
     (unfold Zs; rw[QL (p:=a.1) (by assumption),QL (p:=a.2.2.2) (by assumption)]; simp_all; done)
    exact Qg (Qd rfl (Qc rfl)) ((congrArg (fun z_=>lB z_) e17)) rfl
   ·have hb15':=of_decide_eq_true hb15
    iterate 3 refine w_ ?_
    refine Qo rfl rfl rfl ?_ rfl
    refine Qo rfl rfl rfl ?_ rfl
    refine Qo rfl rfl rfl ?_ rfl
    refine Qo rfl rfl rfl ?_ rfl
    refine Qo rfl rfl rfl ?_ rfl
    refine Qo rfl rfl rfl ?_ rfl
    iterate 4 refine w_ ?_
    refine Qe ?_
    subst hO
    have e18:(true:Bool)=(Zs s a):=by
     (unfold Zs; rw[QL (p:=a.1) (by assumption),QL (p:=a.2.2.2) (by assumption)]; simp_all; done)
    exact Qg (Qd rfl (Qc rfl)) ((congrArg (fun z_=>lB z_) e18)) rfl
  ·have hb14':=of_decide_eq_true hb14
   iterate 8 refine w_ ?_
   refine Qo rfl rfl rfl ?_ rfl
   refine Qo rfl rfl rfl ?_ rfl
   refine Qo rfl rfl rfl ?_ rfl
   refine Qo rfl rfl rfl ?_ rfl
   refine Qo rfl rfl rfl ?_ rfl
   refine Qo rfl rfl rfl ?_ rfl
   iterate 4 refine w_ ?_
   refine Qe ?_
   subst hO
   have e19:(true:Bool)=(Zs s a):=by
    (unfold Zs; rw[QL (p:=a.1) (by assumption),QL (p:=a.2.2.2) (by assumption)]; simp_all; done)
   exact Qg (Qd rfl (Qc rfl)) ((congrArg (fun z_=>lB z_) e19)) rfl
theorem Wy (s:ByteArray)(a:Int×Int×Bool×Int)(h1:0≤a.1∧a.1 < (s.size:Int))(h2:0≤a.2.2.2∧a.2.2.2 < (s.size:Int)):FC Tryz.prog 259 [(false,[dS s]),(true,[dI a.1,dI a.2.1,dB a.2.2.1,dI a.2.2.2])] [] 0 (Zy (lB (Zs s a))):=by
 refine QQ Tryz.func259 rfl rfl Tryz.ntmps259 fun O_ hO w0_ N0_ X_ h0_ f0_=> ?_
 refine AC.fact (Q3 (x:= .tmp 1) (i:=0) (Qb rfl) rfl) fun hi1=>AC.fact (Q3 (x:= .tmp 1) (i:=1) (Qb rfl) rfl) fun hi2=>AC.fact (Q3 (x:= .tmp 1) (i:=3) (Qb rfl) rfl) fun hi3=> ?_
 refine w_ ?_
 refine lc (Qr 0 (Qb rfl) rfl rfl (Fresh.of rfl) (nlr rfl)) ?_
 iterate 2 refine w_ ?_
 obtain ⟨c4,hc5⟩:∃z,s[(a.1).toNat]? =some z:=⟨_,getElem?_pos _ _ (by omega)⟩
 obtain ⟨c6,hc7⟩:∃z,s[(a.2.2.2).toNat]? =some z:=⟨_,getElem?_pos _ _ (by omega)⟩
 refine dw [io 7 (lf (dS s)),io 8 (lP 0 0),io 9 (lI a.1),io 10 (lf (.dat .u8 c4)),io 11 (lf (dS s)),io 12 (lP 0 3),io 13 (lI a.2.2.2),io 14 (lf (.dat .u8 c6)),io 5 (lf (.dat .u8 c4)),io 6 (lf (.dat .u8 c6))] [0,0,2,7,0,0,32,112,15,511] mixed rfl (by kernel_rfl) ⟨dxm rfl rfl,dxf Zr rfl rfl rfl,dxl QD rfl rfl rfl rfl rfl,fun _ h_=>ac (QH (h_.v rfl) (h_.v rfl) rfl Zd (by omega) hc5) rfl,dxm rfl rfl,dxf Zg rfl rfl rfl,dxl QD rfl rfl rfl rfl rfl,fun _ h_=>ac (QH (h_.v rfl) (h_.v rfl) rfl Zd (by omega) hc7) rfl,dxt rfl rfl,dxt rfl rfl,⟨⟩⟩ ?_
 iterate 2 refine w_ ?_
 refine lc (QG (Qa rfl) (QW 43 rfl) rfl) ?_
 refine w_ ?_
 cases hb8:(decide (c4=43))
 ·have hb8':=of_decide_eq_false hb8
  iterate 3 refine w_ ?_
  refine Qo rfl rfl rfl ?_ rfl
  refine Qo rfl rfl rfl ?_ rfl
  iterate 4 refine w_ ?_
  refine lgy rfl rfl (QG (Qa rfl) (QW 45 rfl) rfl) ?_
  refine w_ ?_
  cases hb9:(decide (c4=45))
  ·have hb9':=of_decide_eq_false hb9
   iterate 3 refine w_ ?_
   refine Qo rfl rfl rfl ?_ rfl
   refine Qo rfl rfl rfl ?_ rfl
   iterate 5 refine w_ ?_
   refine Qe ?_
   subst hO
   have e10:(false:Bool)=(Zs s a):=by
    (unfold Zs; rw[QL (p:=a.1) (by assumption),QL (p:=a.2.2.2) (by assumption)]; simp_all; done)
   exact Qg (Qd rfl (Qc rfl)) ((congrArg (fun z_=>lB z_) e10)) rfl
  ·have hb9':=of_decide_eq_true hb9
   refine w_ ?_
   refine lgy rfl rfl (QG (Qa rfl) (QW 48 rfl) rfl) ?_
   refine w_ ?_
   cases hb11:(decide (c6=48))
   ·have hb11':=of_decide_eq_false hb11
    refine w_ ?_
    refine lgy rfl rfl (QG (Qa rfl) (QW 43 rfl) rfl) ?_
    iterate 5 refine w_ ?_
    refine Qe ?_
    subst hO
    have e12:(decide (c6=43):Bool)=(Zs s a):=by
     (unfold Zs; rw[QL (p:=a.1) (by assumption),QL (p:=a.2.2.2) (by assumption)]; simp_all; done)
    exact Qg (Qd rfl (Qc rfl)) ((congrArg (fun z_=>lB z_) e12)) rfl
   ·have hb11':=of_decide_eq_true hb11
    iterate 7 refine w_ ?_
    refine Qe ?_
    subst hO
    have e13:(true:Bool)=(Zs s a):=by
     (unfold Zs; rw[QL (p:=a.1) (by assumption),QL (p:=a.2.2.2) (by assumption)]; simp_all; done)
    exact Qg (Qd rfl (Qc rfl)) ((congrArg (fun z_=>lB z_) e13)) rfl
 ·have hb8':=of_decide_eq_true hb8
  refine w_ ?_
  refine lgy rfl rfl (QG (Qa rfl) (QW 49 rfl) rfl) ?_
  refine w_ ?_
  cases hb14:(decide (c6=49))
  ·have hb14':=of_decide_eq_false hb14
   refine w_ ?_
   refine lgy rfl rfl (QG (Qa rfl) (QW 45 rfl) rfl) ?_
   iterate 3 refine w_ ?_
   cases hb15:(decide (c6=45))
   ·have hb15':=of_decide_eq_false hb15
    refine w_ ?_
    refine lgy rfl rfl (QG (Qa rfl) (QW 45 rfl) rfl) ?_
    refine w_ ?_
    have hb16:(decide (c4=45))=false:=decide_eq_false fun h_=>absurd ((of_decide_eq_true (hb8)).symm.trans h_) (by decide)
    have hb16':=of_decide_eq_false hb16
    try rw[hb16]
    iterate 3 refine w_ ?_
    refine Qo rfl rfl rfl ?_ rfl
    refine Qo rfl rfl rfl ?_ rfl
    iterate 5 refine w_ ?_
    refine Qe ?_
    subst hO
    have e17:(false:Bool)=(Zs s a):=by
     (unfold Zs; rw[QL (p:=a.1) (by assumption),QL (p:=a.2.2.2) (by assumption)]; simp_all; done)
    exact Qg (Qd rfl (Qc rfl)) ((congrArg (fun z_=>lB z_) e17)) rfl
   ·have hb15':=of_decide_eq_true hb15
    iterate 3 refine w_ ?_
    refine Qo rfl rfl rfl ?_ rfl
    refine Qo rfl rfl rfl ?_ rfl
    refine Qo rfl rfl rfl ?_ rfl
    refine Qo rfl rfl rfl ?_ rfl
    refine Qo rfl rfl rfl ?_ rfl
    refine Qo rfl rfl rfl ?_ rfl
    iterate 4 refine w_ ?_
    refine Qe ?_
    subst hO
    have e18:(true:Bool)=(Zs s a):=by
     (unfold Zs; rw[QL (p:=a.1) (by assumption),QL (p:=a.2.2.2) (by assumption)]; simp_all; done)
    exact Qg (Qd rfl (Qc rfl)) ((congrArg (fun z_=>lB z_) e18)) rfl
  ·have hb14':=of_decide_eq_true hb14
   iterate 8 refine w_ ?_
   refine Qo rfl rfl rfl ?_ rfl
   refine Qo rfl rfl rfl ?_ rfl
   refine Qo rfl rfl rfl ?_ rfl
   refine Qo rfl rfl rfl ?_ rfl
   refine Qo rfl rfl rfl ?_ rfl
   refine Qo rfl rfl rfl ?_ rfl
   iterate 4 refine w_ ?_
   refine Qe ?_
   subst hO
   have e19:(true:Bool)=(Zs s a):=by
    (unfold Zs; rw[QL (p:=a.1) (by assumption),QL (p:=a.2.2.2) (by assumption)]; simp_all; done)
   exact Qg (Qd rfl (Qc rfl)) ((congrArg (fun z_=>lB z_) e19)) rfl
theorem Zw (a:Int×Int×Bool×Int):FC Tryz.prog 208 [(true,[dI a.1,dI a.2.1,dB a.2.2.1,dI a.2.2.2])] [] 0 (Zy (ag [dI a.2.1,dB a.2.2.1])):=by
 refine QQ Tryz.func208 rfl rfl Tryz.ntmps208 fun O_ hO w0_ N0_ X_ h0_ f0_=> ?_
 refine AC.fact (Q3 (x:= .tmp 0) (i:=0) (Qb rfl) rfl) fun hi1=>AC.fact (Q3 (x:= .tmp 0) (i:=1) (Qb rfl) rfl) fun hi2=>AC.fact (Q3 (x:= .tmp 0) (i:=3) (Qb rfl) rfl) fun hi3=> ?_
 refine w_ ?_
 refine lc (Qr 0 (Qb rfl) rfl rfl (Fresh.of rfl) (nlr rfl))<|lc (Qw 1 (.pr .int .bool) U0 rfl rfl (Fresh.of rfl) (nlr rfl)) ?_
 iterate 6 refine w_ ?_
 refine lc (QC W5 ⟨_,_,rfl,(Qb rfl),⟨_,_,rfl,(Qb rfl),rfl⟩⟩ (List.all_eq_true.1 rfl) rfl rfl)<|lc (Qf (Qa rfl) rfl (Qb rfl) rfl Xt rfl) ?_
 refine w_ ?_
 refine Qe ?_
 subst hO
 exact Qg (Qd rfl (Zk rfl rfl Xt rfl)) rfl rfl
theorem Qay (c:(List (ByteArray×Int))×List ByteArray×(List (Int×Int×Bool×Int)))(s:ByteArray)[∀c,Decidable (SgOk c)]:FC Tryz.prog 293 [(true,[.dat (.sl 145 (.pr .str .int)) c.1, .dat (.sl 9 .str) c.2.1, .dat (.sl 179 (.pr .int (.pr .int (.pr .bool .int)))) c.2.2]),(false,[dS s])] [] 0 (Zy (lB (decide (SignsOk c s)))):=by
 refine QQ Tryz.func293 rfl rfl Tryz.ntmps293 fun O_ hO w0_ N0_ X_ h0_ f0_=> ?_
 refine w_ ?_
 refine lc (Qr 0 (Qb rfl) rfl rfl (Fresh.of rfl) (nlr rfl)) ?_
 iterate 7 refine w_ ?_
 refine Qy (fun m_ s_=>∃(k:Nat),k≤s.size∧m_=s.size - k∧(∀j,j < k→∀x,s.toList[j]? =some x→x=48∨x=43∨x=49∨x=45)∧s_=⟨[(1,lf (dS s)),(2,lP 0 0),(5,lI (k:Int))],[(0,some (.box 59 [.dat (.sl 145 (.pr .str .int)) c.1, .dat (.sl 9 .str) c.2.1, .dat (.sl 179 (.pr .int (.pr .int (.pr .bool .int)))) c.2.2]))]⟩) ⟨0,Nat.zero_le _,rfl,(fun j hj=>absurd hj (Nat.not_lt_zero j)),rfl⟩ ?_ ?_
 · exact Wk.of [(0,0)] rfl ⟨rfl,rfl,rfl,trivial⟩ ⟨rfl,trivial⟩ rfl rfl
 rintro m_ s_ ⟨k,hk1,hm2,hB,rfl⟩
 iterate 4 refine w_ ?_
 refine AL.fact (Xh (x:= .tmp 8) (Qa rfl)) fun hl3=>lc (Xg (Qa rfl) rfl Zd) ?_
 iterate 2 refine w_ ?_
 cases hb4:(decide ((k:Int) < (s.size:Int)))
 ·have hb4':=of_decide_eq_false hb4
  refine w_ ?_
  refine QA ?_
  refine (?_:AC _ _ _ _ _)
  iterate 2 refine w_ ?_
  refine AL.fact (Xh (x:= .tmp 30) (Qa rfl)) fun hl5=>lc (Xg (Qa rfl) rfl Zd) ?_
  iterate 2 refine w_ ?_
  refine AL.fact (QB (x:= .tmp 33) (Qa rfl)) fun hl6=> ?_
  iterate 3 refine w_ ?_
  cases hb7:(decide ((s.size:Int)=(c.2.1.length:Int)))
  ·have hb7':=of_decide_eq_false hb7
   iterate 5 refine w_ ?_
   refine Qe ?_
   subst hO
   have e8:(false:Bool)=(decide (SignsOk c s)):=by
    exact QkW (by assumption)
   exact Qg (Qd rfl (Qc rfl)) ((congrArg (fun z_=>lB z_) e8)) rfl
  ·have hb7':=of_decide_eq_true hb7
   refine w_ ?_
   refine lgy rfl rfl (Qh (YI c) Qao ⟨_,_,rfl,(Qb rfl),rfl⟩ rfl rfl) ?_
   iterate 3 refine w_ ?_
   refine Qe ?_
   subst hO
   have e9:(decide (SgOk c):Bool)=(decide (SignsOk c s)):=by
    exact QkP hB (by omega) (by assumption)
   exact Qg (Qd rfl (Qc rfl)) ((congrArg (fun z_=>lB z_) e9)) rfl
 ·have hb4':=of_decide_eq_true hb4
  iterate 7 refine w_ ?_
  obtain ⟨c10,hc11⟩:∃z,s[((k:Int)).toNat]? =some z:=⟨_,getElem?_pos _ _ (by omega)⟩
  refine lc (QH (Qa rfl) (Qa rfl) rfl Zd (by omega) hc11) ?_
  iterate 4 refine w_ ?_
  refine lc (Yb (Qa rfl) (QW 48 rfl) rfl) ?_
  refine w_ ?_
  cases hb12:(!decide (c10=48))
  ·have hb12':(c10=48):=Ze hb12
   iterate 13 refine w_ ?_
   refine AC.skip ?_
   refine (?_:AC _ _ _ _ _)
   iterate 4 refine w_ ?_
   refine Qj<|QS ⟨k+1,by omega,rfl,(Wb hB (by assumption) (by first | exact .inl (by assumption) | exact .inr (.inl (by assumption)) | exact .inr (.inr (.inl (by assumption))) | exact .inr (.inr (.inr (by assumption))))),rfl⟩ (by omega) ?_
   exact Wk.of [(0,0)] rfl ⟨rfl,rfl,rfl,trivial⟩ ⟨rfl,trivial⟩ rfl rfl
  ·have hb12':¬(c10=48):=Zp hb12
   refine w_ ?_
   refine lgy rfl rfl (Yb (Qa rfl) (QW 43 rfl) rfl) ?_
   iterate 2 refine w_ ?_
   cases hb13:(!decide (c10=43))
   ·have hb13':(c10=43):=Ze hb13
    iterate 9 refine w_ ?_
    refine AC.skip ?_
    refine (?_:AC _ _ _ _ _)
    iterate 4 refine w_ ?_
    refine Qj<|QS ⟨k+1,by omega,rfl,(Wb hB (by assumption) (by first | exact .inl (by assumption) | exact .inr (.inl (by assumption)) | exact .inr (.inr (.inl (by assumption))) | exact .inr (.inr (.inr (by assumption))))),rfl⟩ (by omega) ?_
    exact Wk.of [(0,0)] rfl ⟨rfl,rfl,rfl,trivial⟩ ⟨rfl,trivial⟩ rfl rfl
   ·have hb13':¬(c10=43):=Zp hb13
    refine w_ ?_
    refine lgy rfl rfl (Yb (Qa rfl) (QW 49 rfl) rfl) ?_
    iterate 2 refine w_ ?_
    cases hb14:(!decide (c10=49))
    ·have hb14':(c10=49):=Ze hb14
     iterate 5 refine w_ ?_
     refine AC.skip ?_
     refine (?_:AC _ _ _ _ _)
     iterate 4 refine w_ ?_
     refine Qj<|QS ⟨k+1,by omega,rfl,(Wb hB (by assumption) (by first | exact .inl (by assumption) | exact .inr (.inl (by assumption)) | exact .inr (.inr (.inl (by assumption))) | exact .inr (.inr (.inr (by assumption))))),rfl⟩ (by omega) ?_
     exact Wk.of [(0,0)] rfl ⟨rfl,rfl,rfl,trivial⟩ ⟨rfl,trivial⟩ rfl rfl
    ·have hb14':¬(c10=49):=Zp hb14
     refine w_ ?_
     refine lgy rfl rfl (Yb (Qa rfl) (QW 45 rfl) rfl) ?_
     iterate 2 refine w_ ?_
     cases hb15:(!decide (c10=45))
     ·have hb15':(c10=45):=Ze hb15
      refine w_ ?_
      refine AC.skip ?_
      refine (?_:AC _ _ _ _ _)
      iterate 4 refine w_ ?_
      refine Qj<|QS ⟨k+1,by omega,rfl,(Wb hB (by assumption) (by first | exact .inl (by assumption) | exact .inr (.inl (by assumption)) | exact .inr (.inr (.inl (by assumption))) | exact .inr (.inr (.inr (by assumption))))),rfl⟩ (by omega) ?_
      exact Wk.of [(0,0)] rfl ⟨rfl,rfl,rfl,trivial⟩ ⟨rfl,trivial⟩ rfl rfl
     ·have hb15':¬(c10=45):=Zp hb15
      iterate 4 refine w_ ?_
      refine Qe ?_
      subst hO
      have e16:(false:Bool)=(decide (SignsOk c s)):=by
       exact QdK (k:=k) (by assumption) (by rintro (h | h | h | h) <;> contradiction)
      exact Qg (Qd rfl (Qc rfl)) ((congrArg (fun z_=>lB z_) e16)) rfl
theorem Qbp (c:(List (ByteArray×Int))×List ByteArray×(List (Int×Int×Bool×Int)))(s:ByteArray)[∀c,Decidable (SgOk c)]:FC Tryz.prog 260 [(true,[.dat (.sl 145 (.pr .str .int)) c.1, .dat (.sl 9 .str) c.2.1, .dat (.sl 179 (.pr .int (.pr .int (.pr .bool .int)))) c.2.2]),(false,[dS s])] [] 0 (Zy (lB (decide (SignsOk c s)))):=by
 refine QQ Tryz.func260 rfl rfl Tryz.ntmps260 fun O_ hO w0_ N0_ X_ h0_ f0_=> ?_
 refine w_ ?_
 refine lc (Qr 0 (Qb rfl) rfl rfl (Fresh.of rfl) (nlr rfl)) ?_
 iterate 7 refine w_ ?_
 refine Qy (fun m_ s_=>∃(k:Nat),k≤s.size∧m_=s.size - k∧(∀j,j < k→∀x,s.toList[j]? =some x→x=48∨x=43∨x=49∨x=45)∧s_=⟨[(1,lf (dS s)),(2,lP 0 0),(5,lI (k:Int))],[(0,some (.box 59 [.dat (.sl 145 (.pr .str .int)) c.1, .dat (.sl 9 .str) c.2.1, .dat (.sl 179 (.pr .int (.pr .int (.pr .bool .int)))) c.2.2]))]⟩) ⟨0,Nat.zero_le _,rfl,(fun j hj=>absurd hj (Nat.not_lt_zero j)),rfl⟩ ?_ ?_
 · exact Wk.of [(0,0)] rfl ⟨rfl,rfl,rfl,trivial⟩ ⟨rfl,trivial⟩ rfl rfl
 rintro m_ s_ ⟨k,hk1,hm2,hB,rfl⟩
 iterate 4 refine w_ ?_
 refine AL.fact (Xh (x:= .tmp 7) (Qa rfl)) fun hl3=>lc (Xg (Qa rfl) rfl Zd) ?_
 iterate 2 refine w_ ?_
 cases hb4:(decide ((k:Int) < (s.size:Int)))
 ·have hb4':=of_decide_eq_false hb4
  refine w_ ?_
  refine QA ?_
  refine (?_:AC _ _ _ _ _)
  iterate 2 refine w_ ?_
  refine lc (Qh (Y2 c) Vs ⟨_,_,rfl,(Qb rfl),rfl⟩ rfl rfl) ?_
  refine w_ ?_
  cases hb5:(decide (SgOk c))
  ·have hb5':=of_decide_eq_false hb5
   iterate 9 refine w_ ?_
   refine Qe ?_
   subst hO
   have e6:(false:Bool)=(decide (SignsOk c s)):=by
    exact Qkr (by assumption)
   exact Qg (Qd rfl (Qc rfl)) ((congrArg (fun z_=>lB z_) e6)) rfl
  ·have hb5':=of_decide_eq_true hb5
   refine w_ ?_
   refine AL.fact (Xh (x:= .tmp 37) (Qa rfl)) fun hl7=>lgy rfl rfl (Xg (Qa rfl) rfl Zd) ?_
   iterate 2 refine w_ ?_
   refine AL.fact (QB (x:= .tmp 40) (Qa rfl)) fun hl8=> ?_
   iterate 5 refine w_ ?_
   refine Qe ?_
   subst hO
   have e9:(decide ((s.size:Int)=(c.2.1.length:Int)):Bool)=(decide (SignsOk c s)):=by
    exact Qhs hB (by omega) (by assumption)
   exact Qg (Qd rfl (Qc rfl)) ((congrArg (fun z_=>lB z_) e9)) rfl
 ·have hb4':=of_decide_eq_true hb4
  iterate 7 refine w_ ?_
  obtain ⟨c10,hc11⟩:∃z,s[((k:Int)).toNat]? =some z:=⟨_,getElem?_pos _ _ (by omega)⟩
  refine lc (QH (Qa rfl) (Qa rfl) rfl Zd (by omega) hc11)<|lc (Yb (Qa rfl) (QW 48 rfl) rfl) ?_
  refine w_ ?_
  cases hb12:(!decide (c10=48))
  ·have hb12':(c10=48):=Ze hb12
   iterate 19 refine w_ ?_
   refine AC.skip ?_
   refine (?_:AC _ _ _ _ _)
   iterate 4 refine w_ ?_
   refine Qj<|QS ⟨k+1,by omega,rfl,(Wb hB (by assumption) (by first | exact .inl (by assumption) | exact .inr (.inl (by assumption)) | exact .inr (.inr (.inl (by assumption))) | exact .inr (.inr (.inr (by assumption))))),rfl⟩ (by omega) ?_
   exact Wk.of [(0,0)] rfl ⟨rfl,rfl,rfl,trivial⟩ ⟨rfl,trivial⟩ rfl rfl
  ·have hb12':¬(c10=48):=Zp hb12
   iterate 2 refine w_ ?_
   refine lgy rfl rfl (QH (Qa rfl) (Qa rfl) rfl Zd (by omega) hc11)<|lgy rfl rfl (Yb (Qa rfl) (QW 43 rfl) rfl) ?_
   iterate 2 refine w_ ?_
   cases hb13:(!decide (c10=43))
   ·have hb13':(c10=43):=Ze hb13
    iterate 13 refine w_ ?_
    refine AC.skip ?_
    refine (?_:AC _ _ _ _ _)
    iterate 4 refine w_ ?_
    refine Qj<|QS ⟨k+1,by omega,rfl,(Wb hB (by assumption) (by first | exact .inl (by assumption) | exact .inr (.inl (by assumption)) | exact .inr (.inr (.inl (by assumption))) | exact .inr (.inr (.inr (by assumption))))),rfl⟩ (by omega) ?_
    exact Wk.of [(0,0)] rfl ⟨rfl,rfl,rfl,trivial⟩ ⟨rfl,trivial⟩ rfl rfl
   ·have hb13':¬(c10=43):=Zp hb13
    iterate 2 refine w_ ?_
    refine lgy rfl rfl (QH (Qa rfl) (Qa rfl) rfl Zd (by omega) hc11)<|lgy rfl rfl (Yb (Qa rfl) (QW 49 rfl) rfl) ?_
    iterate 2 refine w_ ?_
    cases hb14:(!decide (c10=49))
    ·have hb14':(c10=49):=Ze hb14
     iterate 7 refine w_ ?_
     refine AC.skip ?_
     refine (?_:AC _ _ _ _ _)
     iterate 4 refine w_ ?_
     refine Qj<|QS ⟨k+1,by omega,rfl,(Wb hB (by assumption) (by first | exact .inl (by assumption) | exact .inr (.inl (by assumption)) | exact .inr (.inr (.inl (by assumption))) | exact .inr (.inr (.inr (by assumption))))),rfl⟩ (by omega) ?_
     exact Wk.of [(0,0)] rfl ⟨rfl,rfl,rfl,trivial⟩ ⟨rfl,trivial⟩ rfl rfl
    ·have hb14':¬(c10=49):=Zp hb14
     iterate 2 refine w_ ?_
     refine lgy rfl rfl (QH (Qa rfl) (Qa rfl) rfl Zd (by omega) hc11)<|lgy rfl rfl (Yb (Qa rfl) (QW 45 rfl) rfl) ?_
     iterate 2 refine w_ ?_
     cases hb15:(!decide (c10=45))
     ·have hb15':(c10=45):=Ze hb15
      refine w_ ?_
      refine AC.skip ?_
      refine (?_:AC _ _ _ _ _)
      iterate 4 refine w_ ?_
      refine Qj<|QS ⟨k+1,by omega,rfl,(Wb hB (by assumption) (by first | exact .inl (by assumption) | exact .inr (.inl (by assumption)) | exact .inr (.inr (.inl (by assumption))) | exact .inr (.inr (.inr (by assumption))))),rfl⟩ (by omega) ?_
      exact Wk.of [(0,0)] rfl ⟨rfl,rfl,rfl,trivial⟩ ⟨rfl,trivial⟩ rfl rfl
     ·have hb15':¬(c10=45):=Zp hb15
      iterate 4 refine w_ ?_
      refine Qe ?_
      subst hO
      have e16:(false:Bool)=(decide (SignsOk c s)):=by
       exact QdK (k:=k) (by assumption) (by rintro (h | h | h | h) <;> contradiction)
      exact Qg (Qd rfl (Qc rfl)) ((congrArg (fun z_=>lB z_) e16)) rfl
theorem Ko (a:Int×Int×Bool×Int)(s:ByteArray)(h1:0≤a.1∧a.1 < (s.size:Int))(h2:0≤a.2.2.2∧a.2.2.2 < (s.size:Int)):FC Tryz.prog 267 [(true,[dI a.1,dI a.2.1,dB a.2.2.1,dI a.2.2.2]),(false,[.ptr 0 0])] [(0,some (.box 9 [dS s]))] 1 (Is (lB (!Yv (bAt s a.1) (bAt s a.2.2.2))) [(0,some (.box 9 [dS s]))]):=by
 refine QQ Tryz.func267 rfl rfl Tryz.ntmps267 fun O_ hO w0_ N0_ X_ h0_ f0_=> ?_
 refine AC.fact (Q3 (x:= .tmp 0) (i:=0) (Qb rfl) rfl) fun hi1=>AC.fact (Q3 (x:= .tmp 0) (i:=1) (Qb rfl) rfl) fun hi2=>AC.fact (Q3 (x:= .tmp 0) (i:=3) (Qb rfl) rfl) fun hi3=> ?_
 refine w_ ?_
 refine lc (Qr 1 (Qb rfl) rfl rfl (Fresh.of rfl) (nlr rfl)) ?_
 iterate 2 refine w_ ?_
 obtain ⟨c4,hc5⟩:∃z,s[(a.1).toNat]? =some z:=⟨_,getElem?_pos _ _ (by omega)⟩
 obtain ⟨c6,hc7⟩:∃z,s[(a.2.2.2).toNat]? =some z:=⟨_,getElem?_pos _ _ (by omega)⟩
 refine dw [io 4 (lf (dS s)),io 5 (lP 1 0),io 6 (lI a.1),io 7 (lf (.dat .u8 c4)),io 8 (lf (dS s)),io 9 (lP 1 3),io 10 (lI a.2.2.2),io 11 (lf (.dat .u8 c6)),io 12 (lB (Yv c4 c6)),io 13 (lB (!(Yv c4 c6))),io 3 (lB (!(Yv c4 c6)))] [0,0,2,7,0,0,32,112,255,511,1023] mixed rfl (by kernel_rfl) ⟨dxl Zx rfl rfl rfl rfl rfl,dxf Zr rfl rfl rfl,dxl QD rfl rfl rfl rfl rfl,fun _ h_=>ac (QH (h_.v rfl) (h_.v rfl) rfl Zd (by omega) hc5) rfl,dxl Zx rfl rfl rfl rfl rfl,dxf Zg rfl rfl rfl,dxl QD rfl rfl rfl rfl rfl,fun _ h_=>ac (QH (h_.v rfl) (h_.v rfl) rfl Zd (by omega) hc7) rfl,fun _ h_=>ac (Qh (J9 c4 c6) QiH ⟨_,_,rfl,(h_.w rfl),⟨_,_,rfl,(h_.w rfl),rfl⟩⟩ rfl rfl) rfl,fun _ h_=>ac (ZK (h_.v rfl) rfl) rfl,dxt rfl rfl,⟨⟩⟩<|Qe ?_
 subst hO
 have e8:(!(Yv c4 c6):Bool)=(!Yv (bAt s a.1) (bAt s a.2.2.2)):=by
  (rw[QL (by assumption),QL (by assumption)])
 exact Q2 _ _ [(0,0)] (Qd rfl (Qc rfl)) ((congrArg (fun z_=>lB z_) e8)) ⟨rfl,trivial⟩ rfl rfl
theorem Ks (l:List (Int×Int×Bool×Int))(s:ByteArray)(hp:∀a∈l,(0≤a.1∧a.1 < (s.size:Int))∧0≤a.2.2.2∧a.2.2.2 < (s.size:Int)):FC Tryz.prog 212 [(false,[.dat (.sl 179 (.pr .int (.pr .int (.pr .bool .int)))) l]),(false,[.clo 267 [0]])] [(0,some (.box 9 [dS s]))] 1 (Is (lI (ZJ (fun a:DAr=> !Yv (bAt s a.1) (bAt s a.2.2.2)) l)) [(0,some (.box 9 [dS s]))]):=by
 refine QQ Tryz.func212 rfl rfl Tryz.ntmps212 fun O_ hO w0_ N0_ X_ h0_ f0_=> ?_
 iterate 6 refine w_ ?_
 refine AL.fact (QB (x:= .tmp 6) (Qa rfl)) fun hl1=> ?_
 iterate 4 refine w_ ?_
 refine Qy (fun m_ s_=>∃(k:Nat),k≤l.length∧m_=l.length - k∧(NoneTo (fun a:DAr=> !Yv (bAt s a.1) (bAt s a.2.2.2)) l k)∧s_=⟨[(0,lf (.dat (.sl 179 (.pr .int (.pr .int (.pr .bool .int)))) l)),(1,lf (.clo 267 [0])),(7,lI (l.length:Int)),(8,lI (k:Int))],[(0,some (.box 9 [dS s]))]⟩) ⟨0,Nat.zero_le _,rfl,NoneTo.zero,rfl⟩ ?_ ?_
 · exact Wk.of [(0,0)] rfl ⟨rfl,rfl,rfl,rfl,trivial⟩ ⟨rfl,trivial⟩ rfl rfl
 rintro m_ s_ ⟨k,hk2,hm3,hno,rfl⟩
 iterate 4 refine w_ ?_
 cases hb4:(decide ((k:Int) < (l.length:Int)))
 ·have hb4':=of_decide_eq_false hb4
  refine w_ ?_
  refine QA ?_
  refine (?_:AC _ _ _ _ _)
  iterate 3 refine w_ ?_
  refine Qe ?_
  subst hO
  have e5:((-1):Int)=(ZJ (fun a:DAr=> !Yv (bAt s a.1) (bAt s a.2.2.2)) l):=by
   first | exact (hno.no (by omega)).symm
  exact Q2 _ _ [(0,0)] (Qd rfl (Qc rfl)) ((congrArg (fun z_=>lI z_) e5)) ⟨rfl,trivial⟩ rfl rfl
 ·have hb4':=of_decide_eq_true hb4
  iterate 12 refine w_ ?_
  obtain ⟨x6,hx7⟩:∃z,l[k]? =some z:=⟨_,List.getElem?_eq_getElem (by omega)⟩
  refine lc (Qm (Qa rfl) (Qa rfl) Q9 QJ rfl (by omega) hx7) ?_
  refine w_ ?_
  refine lc (Xp (args0:=[(true,[dI x6.1,dI x6.2.1,dB x6.2.2.1,dI x6.2.2.2])]) (caps:=[0]) 1 [(0,0)] (Ko x6 s (hp _ (List.mem_of_getElem? hx7)).1 (hp _ (List.mem_of_getElem? hx7)).2) QhI rfl (Qa rfl) rfl rfl ⟨_,_,rfl,(Qb rfl),rfl⟩ ⟨rfl,trivial⟩ rfl ⟨trivial,trivial⟩ (nlr rfl)) ?_
  refine w_ ?_
  cases hb8:(Yv (bAt s x6.1) (bAt s x6.2.2.2))
  ·iterate 5 refine w_ ?_
   refine Qe ?_
   subst hO
   have e9:((k:Int):Int)=(ZJ (fun a:DAr=> !Yv (bAt s a.1) (bAt s a.2.2.2)) l):=by
    exact (hno.at hx7 (by simp[*])).symm
   exact Q2 _ _ [(0,0)] (Qd rfl (Qc rfl)) ((congrArg (fun z_=>lI z_) e9)) ⟨rfl,trivial⟩ rfl rfl
  ·refine w_ ?_
   refine AC.skip ?_
   refine (?_:AC _ _ _ _ _)
   iterate 3 refine w_ ?_
   refine Qj<|QS ⟨k+1,by omega,rfl,hno.step hx7 (by simp[*]),rfl⟩ (by omega) ?_
   exact Wk.of [(0,0)] rfl ⟨rfl,rfl,rfl,rfl,trivial⟩ ⟨rfl,trivial⟩ rfl rfl
theorem V8 (l:List (Int×Int×Bool×Int))(s:ByteArray)(hp:∀a∈l,(0≤a.1∧a.1 < (s.size:Int))∧0≤a.2.2.2∧a.2.2.2 < (s.size:Int)):FC Tryz.prog 133 [(false,[.dat (.sl 179 (.pr .int (.pr .int (.pr .bool .int)))) l]),(false,[.clo 267 [0]])] [(0,some (.box 9 [dS s]))] 1 (Is (lB (l.any (fun a:DAr=> !Yv (bAt s a.1) (bAt s a.2.2.2)))) [(0,some (.box 9 [dS s]))]):=by
 refine QQ Tryz.func133 rfl rfl Tryz.ntmps133 fun O_ hO w0_ N0_ X_ h0_ f0_=> ?_
 iterate 6 refine w_ ?_
 refine lc (QP 1 [(0,0)] (Ks l s hp) JH ⟨_,_,rfl,(Qb rfl),⟨_,_,rfl,(Qb rfl),rfl⟩⟩ ⟨rfl,trivial⟩ rfl ⟨trivial,trivial⟩ (nlr rfl)) ?_
 iterate 3 refine w_ ?_
 refine Qe ?_
 subst hO
 have e1:(decide (0≤(ZJ (fun a:DAr=> !Yv (bAt s a.1) (bAt s a.2.2.2)) l)):Bool)=(l.any (fun a:DAr=> !Yv (bAt s a.1) (bAt s a.2.2.2))):=by
  exact Ua _ _
 exact Q2 _ _ [(0,0)] (Qd rfl (Qc rfl)) ((congrArg (fun z_=>lB z_) e1)) ⟨rfl,trivial⟩ rfl rfl
theorem Vd (c:(List (ByteArray×Int))×List ByteArray×(List (Int×Int×Bool×Int)))(s:ByteArray)(hs:SignsOk c s):FC Tryz.prog 211 [(true,[.dat (.sl 145 (.pr .str .int)) c.1, .dat (.sl 9 .str) c.2.1, .dat (.sl 179 (.pr .int (.pr .int (.pr .bool .int)))) c.2.2]),(false,[dS s])] [] 0 (Zy (lB (Xx c s))):=by
 refine QQ Tryz.func211 rfl rfl Tryz.ntmps211 fun O_ hO w0_ N0_ X_ h0_ f0_=> ?_
 refine w_ ?_
 refine lc (Qr 0 (Qb rfl) rfl rfl (Fresh.of rfl) (nlr rfl))<|lc (Qr 1 (Qb rfl) rfl rfl (Fresh.of rfl) (nlr rfl)) ?_
 iterate 5 refine w_ ?_
 refine lc (Xe ⟨_,_,rfl,(Qa rfl),rfl,rfl⟩ rfl)<|lc (QP 2 [(0,1)] (V8 c.2.2 s (fun a ha=>hs.at_ ha)) Qcs ⟨_,_,rfl,(Qb rfl),⟨_,_,rfl,(Qb rfl),rfl⟩⟩ ⟨rfl,trivial⟩ rfl ⟨trivial,trivial⟩ (nlr rfl)) ?_
 iterate 3 refine w_ ?_
 refine Qe ?_
 subst hO
 have e1:(!(c.2.2.any (fun a:DAr=> !Yv (bAt s a.1) (bAt s a.2.2.2))):Bool)=(Xx c s):=by
  exact QnY
 exact Qg (Qd rfl (Qc rfl)) ((congrArg (fun z_=>lB z_) e1)) rfl
theorem XY (c:(List (ByteArray×Int))×List ByteArray×(List (Int×Int×Bool×Int)))(s:ByteArray)(hs:SignsOk c s):FC Tryz.prog 197 [(true,[.dat (.sl 145 (.pr .str .int)) c.1, .dat (.sl 9 .str) c.2.1, .dat (.sl 179 (.pr .int (.pr .int (.pr .bool .int)))) c.2.2]),(false,[dS s])] [] 0 (Zy (lB (Xx c s))):=by
 refine QQ Tryz.func197 rfl rfl Tryz.ntmps197 fun O_ hO w0_ N0_ X_ h0_ f0_=> ?_
 refine w_ ?_
 refine lc (Qr 0 (Qb rfl) rfl rfl (Fresh.of rfl) (nlr rfl)) ?_
 iterate 6 refine w_ ?_
 refine AL.fact (QB (x:= .tmp 8) (Qa rfl)) fun hl1=> ?_
 iterate 4 refine w_ ?_
 refine Qy (fun m_ s_=>∃(k:Nat),k≤c.2.2.length∧m_=c.2.2.length - k∧(∀j,j < k→∀a,c.2.2[j]? =some a→Yv (bAt s a.1) (bAt s a.2.2.2)=true)∧s_=⟨[(1,lf (dS s)),(8,lf (.dat (.sl 179 (.pr .int (.pr .int (.pr .bool .int)))) c.2.2)),(9,lI (c.2.2.length:Int)),(10,lI (k:Int))],[]⟩) ⟨0,Nat.zero_le _,rfl,(fun j hj=>absurd hj (Nat.not_lt_zero j)),rfl⟩ ?_ ?_
 · exact Wk.of [] rfl ⟨rfl,rfl,rfl,rfl,trivial⟩ trivial rfl rfl
 rintro m_ s_ ⟨k,hk2,hm3,hP,rfl⟩
 iterate 4 refine w_ ?_
 cases hb4:(decide ((k:Int) < (c.2.2.length:Int)))
 ·have hb4':=of_decide_eq_false hb4
  refine w_ ?_
  refine QA ?_
  refine (?_:AC _ _ _ _ _)
  iterate 3 refine w_ ?_
  refine Qe ?_
  subst hO
  have e5:(true:Bool)=(Xx c s):=by
   first | exact QlB hP (by omega)
  exact Qg (Qd rfl (Qc rfl)) ((congrArg (fun z_=>lB z_) e5)) rfl
 ·have hb4':=of_decide_eq_true hb4
  iterate 5 refine w_ ?_
  obtain ⟨x6,hx7⟩:∃z,c.2.2[k]? =some z:=⟨_,List.getElem?_eq_getElem (by omega)⟩
  have hatx6:=hs.at_ (List.mem_of_getElem? hx7)
  refine lc (Qm (Qa rfl) (Qa rfl) Q9 QJ rfl (by omega) hx7) ?_
  refine w_ ?_
  refine lc (Qw 1 (.pr .int (.pr .int (.pr .bool .int))) Zq rfl rfl (Fresh.of rfl) (nlr rfl))<|lc (Qf (Qa rfl) rfl (Qb rfl) rfl QJ rfl) ?_
  refine w_ ?_
  obtain ⟨c8,hc9⟩:∃z,s[(x6.1).toNat]? =some z:=⟨_,getElem?_pos _ _ (by omega)⟩
  obtain ⟨c10,hc11⟩:∃z,s[(x6.2.2.2).toNat]? =some z:=⟨_,getElem?_pos _ _ (by omega)⟩
  refine dw [io 14 (lf (dS s)),io 15 (lP 1 0),io 16 (lI x6.1),io 17 (lf (.dat .u8 c8)),io 18 (lf (dS s)),io 19 (lP 1 3),io 20 (lI x6.2.2.2),io 21 (lf (.dat .u8 c10)),io 22 (lB (Yv c8 c10)),io 23 (lB (!(Yv c8 c10)))] [0,0,2,7,0,0,32,112,255,511] mixed rfl (by kernel_rfl) ⟨dxm rfl rfl,dxf Zr rfl rfl rfl,dxl QD rfl rfl rfl rfl rfl,fun _ h_=>ac (QH (h_.v rfl) (h_.v rfl) rfl Zd (by omega) hc9) rfl,dxm rfl rfl,dxf Zg rfl rfl rfl,dxl QD rfl rfl rfl rfl rfl,fun _ h_=>ac (QH (h_.v rfl) (h_.v rfl) rfl Zd (by omega) hc11) rfl,fun _ h_=>ac (Qh (Qbo c8 c10) QhN ⟨_,_,rfl,(h_.w rfl),⟨_,_,rfl,(h_.w rfl),rfl⟩⟩ rfl rfl) rfl,fun _ h_=>ac (ZK (h_.v rfl) rfl) rfl,⟨⟩⟩ ?_
  cases hb12:(Yv c8 c10)
  ·iterate 4 refine w_ ?_
   refine Qe ?_
   subst hO
   have e13:(false:Bool)=(Xx c s):=by
    exact QnZ hx7 (by rw[QL (by assumption),QL (by assumption)]; assumption)
   exact Qg (Qd rfl (Qc rfl)) ((congrArg (fun z_=>lB z_) e13)) rfl
  ·refine w_ ?_
   refine AC.skip ?_
   refine (?_:AC _ _ _ _ _)
   iterate 3 refine w_ ?_
   refine Qj<|QS ⟨k+1,by omega,rfl,(QkA hP hx7 (by rw[QL (by assumption),QL (by assumption)]; assumption)),rfl⟩ (by omega) ?_
   exact Wk.of [] rfl ⟨rfl,rfl,rfl,rfl,trivial⟩ trivial rfl rfl
theorem V7 (c:(List (ByteArray×Int))×List ByteArray×(List (Int×Int×Bool×Int)))(s:ByteArray)[∀c,Decidable (SgOk c)]:FC Tryz.prog 269 [(true,[.dat (.sl 145 (.pr .str .int)) c.1, .dat (.sl 9 .str) c.2.1, .dat (.sl 179 (.pr .int (.pr .int (.pr .bool .int)))) c.2.2]),(false,[dS s])] [] 0 (Zy (PV.tup [(false,[dB (okP c s)]),(false,[dB (decide (SignsOk c s))])])):=by
 refine QQ Tryz.func269 rfl rfl Tryz.ntmps269 fun O_ hO w0_ N0_ X_ h0_ f0_=> ?_
 refine w_ ?_
 refine lc (Qr 0 (Qb rfl) rfl rfl (Fresh.of rfl) (nlr rfl)) ?_
 iterate 7 refine w_ ?_
 refine lc (Qh (Qay c s) Qho ⟨_,_,rfl,(Qb rfl),⟨_,_,rfl,(Qb rfl),rfl⟩⟩ rfl rfl) ?_
 iterate 2 refine w_ ?_
 cases hb1:(decide (SignsOk c s))
 ·have hb1':=of_decide_eq_false hb1
  iterate 5 refine w_ ?_
  refine Qe ?_
  subst hO
  have e2:(false:Bool)=(okP c s):=by
   exact QiQ (by assumption)
  have e3:(false:Bool)=(decide (SignsOk c s)):=by
   exact (decide_eq_false (by assumption)).symm
  exact Qg (Z8 rfl (Qc rfl) (Qc rfl)) (((congrArg (fun z_=>PV.tup [(false,[dB z_]),(false,[dB false])]) e2)).trans (congrArg (fun z_=>PV.tup [(false,[dB (okP c s)]),(false,[dB z_])]) e3)) rfl
 ·have hb1':=of_decide_eq_true hb1
  iterate 5 refine w_ ?_
  refine lc (Qh (Vd c s (by assumption)) Qcl ⟨_,_,rfl,(Qb rfl),⟨_,_,rfl,(Qb rfl),rfl⟩⟩ rfl rfl) ?_
  iterate 3 refine w_ ?_
  refine Qe ?_
  subst hO
  have e4:(Xx c s:Bool)=(okP c s):=by
   exact Qjy (by assumption)
  have e5:(true:Bool)=(decide (SignsOk c s)):=by
   exact (decide_eq_true (by assumption)).symm
  exact Qg (Z8 rfl (Qc rfl) (Qc rfl)) (((congrArg (fun z_=>PV.tup [(false,[dB z_]),(false,[dB true])]) e4)).trans (congrArg (fun z_=>PV.tup [(false,[dB (okP c s)]),(false,[dB z_])]) e5)) rfl
theorem Qae (c:(List (ByteArray×Int))×List ByteArray×(List (Int×Int×Bool×Int)))(s:ByteArray)[∀c,Decidable (SgOk c)]:FC Tryz.prog 199 [(true,[.dat (.sl 145 (.pr .str .int)) c.1, .dat (.sl 9 .str) c.2.1, .dat (.sl 179 (.pr .int (.pr .int (.pr .bool .int)))) c.2.2]),(false,[dS s])] [] 0 (Zy (lB (okP c s))):=by
 refine QQ Tryz.func199 rfl rfl Tryz.ntmps199 fun O_ hO w0_ N0_ X_ h0_ f0_=> ?_
 refine w_ ?_
 refine lc (Qr 0 (Qb rfl) rfl rfl (Fresh.of rfl) (nlr rfl)) ?_
 iterate 5 refine w_ ?_
 refine lc (Qh (Qbp c s) Qh6 ⟨_,_,rfl,(Qb rfl),⟨_,_,rfl,(Qb rfl),rfl⟩⟩ rfl rfl) ?_
 refine w_ ?_
 cases hb1:(decide (SignsOk c s))
 ·have hb1':=of_decide_eq_false hb1
  iterate 6 refine w_ ?_
  refine Qe ?_
  subst hO
  have e2:(false:Bool)=(okP c s):=by
   exact QiQ (by assumption)
  exact Qg (Qd rfl (Qc rfl)) ((congrArg (fun z_=>lB z_) e2)) rfl
 ·have hb1':=of_decide_eq_true hb1
  iterate 2 refine w_ ?_
  refine lgy rfl rfl (Qh (XY c s (by assumption)) UU ⟨_,_,rfl,(Qb rfl),⟨_,_,rfl,(Qb rfl),rfl⟩⟩ rfl rfl) ?_
  iterate 3 refine w_ ?_
  refine Qe ?_
  subst hO
  have e3:(Xx c s:Bool)=(okP c s):=by
   exact Qjy (by assumption)
  exact Qg (Qd rfl (Qc rfl)) ((congrArg (fun z_=>lB z_) e3)) rfl
end Go.Proofs.YtnakmhfjafecpaaGreat
