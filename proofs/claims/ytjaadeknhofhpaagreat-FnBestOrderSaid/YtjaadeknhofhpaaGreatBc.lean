/- Walks over abstract states: the arcs that leave a state; the place of a name. -/
import Derived.Test.YtjaadeknhofhpaaGreatVc
import Derived.Test.YtjaadeknhofhpaaGreatWa
import Derived.DeepKeys3
import Derived.Test.YtjaadeknhofhpaaGreatWi
import Derived.Test.YtjaadeknhofhpaaGreatAk
import Derived.Test.YtjaadeknhofhpaaGreatIdx
import Derived.Test.YtjaadeknhofhpaaGreatProg
import Derived.KernelRfl
import Derived.Shelf.Lays
import Derived.Shelf.Lays2
import Derived.Shelf.Slices.In.SortNone
import Derived.Shelf.Slices.In.CompactI
import Derived.Test.YtjaadeknhofhpaaGreatNm
set_option linter.unusedSimpArgs false
set_option linter.unusedVariables false
set_option linter.unusedSectionVars false
namespace Go.Proofs.YtjaadeknhofhpaaGreat
set_option maxHeartbeats 4000000
set_option maxRecDepth 100000
open Go.RowKit
set_option maxRecDepth 100000
set_option maxHeartbeats 4000000
def DelI {α:Type _}(p:α→Bool)(l0 l:List α)(i j:Int):Prop:=(0≤i∧i < j∧j≤(l.length:Int))∧l.length=l0.length∧l.take i.toNat=(l0.take j.toNat).filter p∧l.drop j.toNat=l0.drop j.toNat
section
variable {α:Type _}{p f:α→Bool}{l0 l:List α}{i j:Int}{x:α}
theorem QaS (f:α→Bool)(l:List α):(ZN f l= -1∧∀x∈l,f x=false)∨∃(k:Nat) (x:α),ZN f l=(k:Int)∧l[k]? =some x∧f x=true∧NoneTo f l k:=by
  unfold ZN
  cases h:l.findIdx? f with
  | none=>exact .inl ⟨rfl,fun x hx=>by simpa using List.findIdx?_eq_none_iff.1 h x hx⟩
  | some k=>
    obtain ⟨h1,h2,h3⟩:=bO.1 h
    exact .inr ⟨k,l[k],rfl,ap h1,h2,fun j hj y hy=>by
      obtain ⟨h4,h5⟩:=au.1 hy
      have:=h3 j hj
      rw[h5] at this
      simpa using this⟩
theorem Qo5 (f:α→Bool)(l:List α): -1≤ZN f l∧ZN f l < (l.length:Int):=by
  rcases QaS f l with ⟨h,_⟩ | ⟨k,x,h,h2,_⟩
  · omega
  · have := (au.1 h2).1
    omega
theorem QiR (h:ZN f l= -1):l=l.filter fun x=> !f x:=by
  rcases QaS f l with ⟨_,h2⟩ | ⟨k,_,h2,_⟩
  · exact (List.filter_eq_self.2 fun x hx=>by rw[h2 x hx]; rfl).symm
  · omega
theorem DelI.start (h:¬ZN f l= -1):DelI (fun x=> !f x) l l (ZN f l) (ZN f l+1):=by
  rcases QaS f l with ⟨h2,_⟩ | ⟨k,x,h2,h3,h4,h5⟩
  · exact absurd h2 h
  · have hk := (au.1 h3).1
    rw[h2]
    refine ⟨by omega,rfl, ?_,rfl⟩
    rw[show ((k:Int)+1).toNat=k+1 by omega,show ((k:Int)).toNat=k by omega,Q0 h3,bc]
    have:([x].filter fun x=> !f x)=[]:=by simp[h4]
    rw[this,bt]
    refine (List.filter_eq_self.2 fun y hy=> ?_).symm
    obtain ⟨n,hn⟩:=aS.1 hy
    have hn2:=(au.1 hn).1
    rw[ab] at hn2
    rw[List.getElem?_take_of_lt (by omega)] at hn
    rw[h5 n (by omega) y hn]; rfl
theorem DelI.at_ (h:DelI p l0 l i j)(hx:l[j.toNat]? =some x):l0[j.toNat]? =some x:=by
  obtain ⟨h1,h2,h3,h4⟩:=h
  have:=congrArg (fun l:List α=>l[0]?) h4
  simpa [hx] using this.symm
theorem DelI.lt (h:DelI p l0 l i j)(hx:l[j.toNat]? =some x):j < (l.length:Int):=by
  have:=(au.1 hx).1
  obtain ⟨h1,_⟩:=h
  omega
theorem DelI.drop_ (h:DelI p l0 l i j)(hx:l[j.toNat]? =some x)(hp:p x=false):DelI p l0 l i (j+1):=by
  have h0:=h.at_ hx
  have hl:=h.lt hx
  obtain ⟨h1,h2,h3,h4⟩:=h
  refine ⟨by omega,h2, ?_, ?_⟩
  · rw[show (j+1).toNat=j.toNat+1 by omega,Q0 h0,bc,h3]; simp[hp]
  · have := congrArg (List.drop 1) h4
    rw[d6,d6] at this
    rw[show (j+1).toNat=j.toNat+1 by omega]
    exact this
theorem DelI.keep (h:DelI p l0 l i j)(hx:l[j.toNat]? =some x)(hp:p x=true):DelI p l0 (l.set i.toNat x) (i+1) (j+1):=by
  have h0:=h.at_ hx
  have hl:=h.lt hx
  obtain ⟨h1,h2,h3,h4⟩:=h
  refine ⟨by rw[aq]; omega,by rw[aq]; exact h2, ?_, ?_⟩
  · have hg : (l.set i.toNat x)[i.toNat]? = some x := aU (by omega)
    rw[show (j+1).toNat=j.toNat+1 by omega,show (i+1).toNat=i.toNat+1 by omega,Q0 hg,Q0 h0,bc,List.take_set_of_le (aL _),h3]
    simp[hp]
  · have := congrArg (List.drop 1) h4
    rw[d6,d6] at this
    rw[show (j+1).toNat=j.toNat+1 by omega,List.drop_set_of_lt (by omega)]
    exact this
theorem DelI.end_ {z:List α}(h:DelI p l0 l i j)(hj:¬j < (l.length:Int))(n:Nat)(hn:n=i.toNat):(l.take i.toNat++z).take n=l0.filter p:=by
  obtain ⟨h1,h2,h3,h4⟩:=h
  subst hn
  rw[List.take_left' (by rw[ab]; omega),h3,aH (by omega)]
end
theorem Qb5 (l:List (ByteArray×Int))(name:ByteArray):FC Tryz.prog 245 [(false,[.dat QJ l]),(false,[dS name])] [] 0 (Yj (lI (ZN (fun x:Q9=>decide (x.1=name)) l))):=by
 refine QO Tryz.func245 rfl rfl Tryz.ntmps245 fun O_ hO w0_ N0_ X_ h0_ f0_=> ?_
 iterate 6 refine w_ ?_
 refine AL.fact (Qo (x:= .tmp 7) (Qa rfl)) fun hl1=> ?_
 iterate 4 refine w_ ?_
 refine Qu (fun m_ s_=>∃(k:Nat),k≤l.length∧m_=l.length - k∧(NoneTo (fun x:Q9=>decide (x.1=name)) l k)∧s_=⟨[(1,lf (dS name)),(7,lf (.dat QJ l)),(8,lI (l.length:Int)),(9,lI (k:Int))],[]⟩) ⟨0,aw _,rfl,NoneTo.zero,rfl⟩ ?_ ?_
 exact wo []
 rintro m_ s_ ⟨k,hk2,hm3,hno,rfl⟩
 iterate 4 refine w_ ?_
 cases hb4:(decide ((k:Int) < (l.length:Int)))
 have hb4':=a7 hb4
 iterate 7 refine w_ ?_
 subst hO
 have e5:((-1):Int)=(ZN (fun x:Q9=>decide (x.1=name)) l):=by
  first | exact (hno.no (by omega)).symm
 exact Qi (Qg rfl (Qd rfl)) (by rw[← e5] <;> rfl) rfl
 have hb4':=a8 hb4
 iterate 6 refine w_ ?_
 obtain ⟨x6,hx7⟩:=gx l k
 refine lc (Qh (Qa rfl) (Qa rfl) YE YJ rfl (by omega) hx7) ?_
 refine w_ ?_
 refine lc (Qj 0 QY UZ rfl rfl (Fresh.of rfl) (nlr rfl)) ?_
 refine w_ ?_
 refine lc (Qc (Qa rfl) rfl (Qb rfl) rfl YJ rfl) ?_
 iterate 7 refine w_ ?_
 cases hb8:(decide (x6.1=name))
 have hb8':=a7 hb8
 iterate 6 refine w_ ?_
 refine Qm<|QV ⟨k+1,by omega,rfl,hno.step hx7 ‹_›,rfl⟩ (by omega) ?_
 exact wo []
 have hb8':=a8 hb8
 iterate 6 refine w_ ?_
 subst hO
 have e9:((k:Int):Int)=(ZN (fun x:Q9=>decide (x.1=name)) l):=by
  exact (hno.at hx7 ‹_›).symm
 exact Qi (Qg rfl (Qd rfl)) (by rw[e9] <;> rfl) rfl
end Go.Proofs.YtjaadeknhofhpaaGreat
namespace Go.Proofs.YtjaadeknhofhpaaGreat
set_option maxHeartbeats 4000000
set_option maxRecDepth 100000
open Go.RowKit
set_option maxRecDepth 100000
set_option maxHeartbeats 4000000
abbrev PSt:=Int×Bool
def ixP (ps:List PSt)(p:PSt):Int:=(ps.idxOf p:Nat)
def psP (ps:List PSt)(p:PSt):List PSt:=if p∈ps then ps else ps++[p]
def cdP (c:DSg)(ps:List PSt)(cs:List ByteArray)(p:PSt):List ByteArray:=if p∈ps then cs else cs++[Qjw c p.1++⟨#[if p.2 then 49 else 48]⟩]
def Qr8:Nat→List PSt→List (PSt×Int)
  | _,[]=>[]
  | n,p :: ps=>(p,(n:Int)) :: Qr8 (n+1) ps
def Quc (ps:List PSt):List (PSt×Int):=Qr8 0 ps
section
variable {c:DSg}{ps:List PSt}{p:PSt}{cs:List ByteArray}{n:Nat}{code:ByteArray}
end
end Go.Proofs.YtjaadeknhofhpaaGreat
namespace Go.Proofs.YtjaadeknhofhpaaGreat
set_option maxHeartbeats 4000000
set_option maxRecDepth 100000
open Go.RowKit
set_option maxRecDepth 100000
set_option maxHeartbeats 4000000
abbrev Ins:=List PSt×List ByteArray×List DAr
def Qob (s:ByteArray)(p:PSt):Bool:=(decide (bAt s p.1=43)&& !p.2)||(decide (bAt s p.1=45)&&p.2)
def QsN (s:ByteArray)(p:PSt)(a:DAr):Bool:=(decide (bAt s a.2.2.2=48)&&p.2)||(decide (bAt s a.2.2.2=49)&& !p.2)||(Qob s p&&Qsl s a)
def Qs9 (c:DSg)(st:Ins)(k:Int)(l:ZD)(p:PSt):Ins:=(psP st.1 p,cdP c st.1 st.2.1 p,st.2.2++[(k,l.1,l.2,ixP st.1 p)])
def Qs0 (c:DSg)(s:ByteArray)(k:Int)(p:PSt)(st:Ins)(a:DAr):Ins:=if QsN s p a=true then st else Qs9 c st k (a.2.1,a.2.2.1) (a.2.2.2,p.2)
def QtJ (c:DSg)(s:ByteArray)(st:Ins)(k:Int)(p:PSt):Ins:=if Qob s p=true then Qs9 c st k ((c.1.length:Int),decide (bAt s p.1=43)) (p.1, !p.2) else st
def QtN (c:DSg)(s:ByteArray)(st:Ins)(k:Int):Ins:=match st.1[k.toNat]? with
  | none=>st
  | some p=>(Qr9 c.2.2 p.1).foldl (Qs0 c s k p) (QtJ c s st k p)
section
variable {c:DSg}{s:ByteArray}{st:Ins}{k:Int}{p:PSt}{a:DAr}{i:Nat}{x:UInt8}{l:List DAr}
end
end Go.Proofs.YtjaadeknhofhpaaGreat
namespace Go.Proofs.YtjaadeknhofhpaaGreat
set_option maxHeartbeats 4000000
set_option maxRecDepth 100000
open Go.RowKit
set_option maxRecDepth 100000
set_option maxHeartbeats 4000000
def vB (b:Bool):Int:=if b then 1 else 0
def QrD (p:PSt):Int:=2*p.1+vB p.2
def Qt7 (x:UInt8)(v:Int):Bool:=if x=48 then decide (v=0) else if x=49 then decide (v=1) else true
section
variable {c:DSg}{s:ByteArray}{ps:List PSt}{p:PSt}{cs:List ByteArray}{i:Nat}{k v z q:Int}{code:ByteArray}{a:DAr}
theorem QkI (b:Bool):vB b=0∨vB b=1:=by cases b <;> simp[vB]
theorem QnJ (b:Bool):decide (vB b=1)=b:=by cases b <;> rfl
abbrev Qt9 (k v:Int):Int→Bool:=fun z=>decide (z=2*k+v)
end
theorem Qfe (n:Int)(hn:0≤n∧n≤9):FC Tryz.prog 285 [(false,[dI n])] [] 0 (Yj (lf (dS (⟨#[UInt8.ofNat (48+n).toNat]⟩:ByteArray)))):=by
 have hn10:decide (n < 10)=true:=aK (by omega)
 refine QO Tryz.func285 rfl rfl Tryz.ntmps285 fun O_ hO w0_ N0_ X_ h0_ f0_=> ?_
 refine AC.fact (QC (x:= .tmp 0) (Qa rfl)) fun hi1=> ?_
 iterate 8 refine w_ ?_
 cases hb2:(decide (n < 10))
 exact absurd (hb2.symm.trans (show (decide (n < 10))=true from hn10)) (by decide)
 have hb2':=a8 hb2
 iterate 4 refine w_ ?_
 refine lc (Qmy (Qa rfl) Qah JA (by omega) (by omega) rfl)<|lc (Qf 0 (e:= .u8) Ze Q2 QfO rfl ⟨_,_,rfl,(Qb rfl),rfl⟩ (ae.1 rfl) ⟨_,_,_,_,rfl,⟨rfl,rfl⟩,⟨rfl,rfl⟩,rfl⟩ (by decide) rfl rfl (Fresh.of rfl) (nlr rfl))<|lc (Xp (ys:=[UInt8.ofNat (48+n).toNat]) (Uq (Qa rfl) rfl) Ze JA ZS rfl) ?_
 iterate 3 refine w_ ?_
 subst hO
 exact Qi (Qg rfl (Qd rfl)) rfl rfl
end Go.Proofs.YtjaadeknhofhpaaGreat
namespace Go.Proofs.YtjaadeknhofhpaaGreat
set_option maxHeartbeats 4000000
set_option maxRecDepth 100000
open Go.RowKit
set_option maxRecDepth 100000
set_option maxHeartbeats 4000000
def Qon (s:ByteArray):Bool:=decide (bAt s 0=49)||decide (bAt s 0=45)
def QrJ (c:DSg)(s:ByteArray):Ins:=(psP [] (0,Qon s),cdP c [] [] (0,Qon s),[])
def Qs6 (c:DSg)(s:ByteArray):Nat→Nat→Ins→Ins
  | 0,_,st=>st
  | f+1,k,st=>if k < st.1.length then Qs6 c s f (k+1) (QtN c s st (k:Int)) else st
def Qb2 (c:DSg)(s:ByteArray):Ins:=Qs6 c s 601 0 (QrJ c s)
def Qp2 (c:DSg)(name:ByteArray)(st:Ins):DSg:=(c.1++[(name,3)],st.2.1,st.2.2)
structure InsI (c:DSg) (st:Ins):Prop where
  rng:∀p∈st.1,0≤p.1∧p.1 < (c.2.1.length:Int)
  nd:st.1.Nodup
  len:st.2.1.length=st.1.length
section
variable {c:DSg}{s name:ByteArray}{st:Ins}{ps:List PSt}{cs:List ByteArray}{as_:List DAr}{p:PSt}{k:Int}{l:ZD}{i j n:Nat}{b:Bool}{z:Int}
theorem Qh7:∀(n:Nat) (l:List Nat),l.Nodup→(∀x∈l,x < n)→l.length≤n
  | 0,[],_,_=>aL _
  | 0,x :: l,_,h=>absurd (h x (aA ..)) (bK x)
  | n+1,l,hd,h=>by
    have h1:=Qh7 n (l.erase n) (hd.erase n) fun x hx=>by
      have h2:=h x (List.mem_of_mem_erase hx)
      have h3:x≠n:=fun e=>by subst e; exact (List.Nodup.not_mem_erase hd) hx
      omega
    have h2:=List.length_erase (a:=n) (l:=l)
    split at h2 <;> omega
theorem InsI.few (h:InsI c st)(hn:c.2.1.length≤300):st.1.length≤600:=by
  have h1:=Qh7 600 (st.1.map fun p=>(QrD p).toNat) ?_ ?_
  · simpa using h1
  · rw [List.Nodup, cH]
    refine List.Pairwise.imp_of_mem ?_ h.nd
    intro a b ha hb hne e
    apply hne
    have h2:=h.rng a ha
    have h3:=h.rng b hb
    have h4:=QkI a.2
    have h5:=QkI b.2
    unfold QrD at e
    have h6:a.1=b.1∧vB a.2=vB b.2:=by omega
    refine Prod.ext h6.1 ?_
    rw[← QnJ a.2,h6.2,QnJ]
  · intro x hx
    obtain ⟨p,hp,rfl⟩:=bM.1 hx
    have h2:=h.rng p hp
    have h4:=QkI p.2
    unfold QrD
    omega
end
abbrev QpV (name:ByteArray):Q9→Bool:=fun x=>decide (x.1=name)
section
variable [∀c,Decidable (SgOk c)][∀s,Decidable (Ja s)]{c:DSg}{s name:ByteArray}{st:Ins}
def Qs7 (c:DSg)(name s:ByteArray):Bool:=okP c s&&decide (Ja name)&& !(c.1.any (QpV name))&& !decide (c.1.length=8)
def Qsv:DSg×List Int:=(Qaw,[])
def Qtq (c:DSg)(name s:ByteArray):(DSg×List Int)×Bool:=
  if Qs7 c name s=true∧SgOk (Qp2 c name (Qb2 c s)) then ((Qp2 c name (Qb2 c s),(Qb2 c s).1.map fun p=>p.1),true) else (Qsv,false)
def Qt2 (c:DSg)(name s:ByteArray):(DSg×List Int)×Bool:=
  if Qs7 c name s=true then ((Qp2 c name (Qb2 c s),(Qb2 c s).1.map fun p=>p.1),decide (SgOk (Qp2 c name (Qb2 c s)))) else (Qsv,false)
end
end Go.Proofs.YtjaadeknhofhpaaGreat
namespace Go.Proofs.YtjaadeknhofhpaaGreat
set_option maxHeartbeats 4000000
set_option maxRecDepth 100000
open Go.RowKit
set_option maxRecDepth 100000
set_option maxHeartbeats 4000000
@[reducible] def Qok:(ByteArray)→Int→(ByteArray)×Int:=fun _ k=>(QqY (k),k+1)
@[reducible] def QqP:(QrY)→Int→(QrY)×Int:=fun _ k=>((k,k+1,decide ((k+1+1) % 3=0),k+1+1+1),k+1+1+1+1)
def mSG (c:DSg)(k:Int):DSg×Int:=(((QT fS c.1 k).1,(QT Qok c.2.1 (QT fS c.1 k).2).1,(QT QqP c.2.2 (QT Qok c.2.1 (QT fS c.1 k).2).2).1),(QT QqP c.2.2 (QT Qok c.2.1 (QT fS c.1 k).2).2).2)
section
variable [∀c,Decidable (SgOk c)][∀s,Decidable (Ja s)]
end
end Go.Proofs.YtjaadeknhofhpaaGreat
namespace Go.Proofs.YtjaadeknhofhpaaGreat
set_option maxHeartbeats 4000000
set_option maxRecDepth 100000
open Go.RowKit
theorem Qa5:∀{t:Ty} {w:World} {cs:List Value} {x y:t.Den},Rep t w cs x→Rep t w cs y→x=y
  | .int,_,_,x,y,h,k=>by have h1:=h.1; have h2:=k.1; rw[h1] at h2; simpa using h2
  | .bool,_,_,x,y,h,k=>by have h1:_=_:=h; have h2:_=_:=k; rw[h1] at h2; simpa using h2
  | .str,_,_,x,y,h,k=>by have h1:=h.1; have h2:=k.1; rw[h1] at h2; simpa using h2
  | .u8,_,_,x,y,h,k=>by
    have h1:_=_:=h; have h2:_=_:=k; rw[h1] at h2
    simp only[aB,Value.int.injEq,and_true,true_and] at h2
    exact UInt8.toNat_inj.1 (by omega)
  | .vl,_,_,x,y,h,k=>by
    have h1:_=_:=h; have h2:_=_:=k; rw[h1] at h2
    exact Qk2 (by simpa using h2)
  | .sl E e,w,cs,xs,ys,⟨A,c,h1,h2,h3,h4⟩,⟨A',c',k1,k2,k3,k4⟩=>by
    rw[h1] at k1
    simp only[aB,Value.slice.injEq,and_true] at k1
    obtain ⟨rfl,hl,rfl⟩:=k1
    apply bp
    intro i
    rcases cE i xs.length with hi | hi
    · obtain ⟨b, o, e1, g1⟩ := h4 (by omega)
      obtain ⟨b',o',e2,g2⟩:=k4 (by omega)
      rw[e1] at e2
      cases e2
      obtain ⟨ds,r1,r2⟩:=g1 i xs[i] (ap hi)
      obtain ⟨ds',s1,s2⟩:=g2 i ys[i] (ap (by omega))
      have hd:ds=ds':=by
        apply bp
        intro j
        have l1:=r1.len
        have l2:=s1.len
        rcases cE j e.wd with hj | hj
        · have a1 := r2 j ds[j] (ap (by omega))
          have a2:=s2 j ds'[j] (ap (by omega))
          rw[a1] at a2
          rw[ap (by omega),ap (by omega)]
          exact a2
        · rw[bB (by omega),bB (by omega)]
      subst hd
      rw[ap hi,ap (by omega),Qa5 r1 s1]
    · rw[bB hi,bB (by omega)]
  | .pr a b,w,cs,x,y,⟨l,r,h1,h2,h3⟩,⟨l',r',k1,k2,k3⟩=>by
    rw[h1] at k1
    obtain ⟨rfl,rfl⟩:=List.append_inj k1 (by rw[h2.len,k2.len])
    exact Prod.ext (Qa5 h2 k2) (Qa5 h3 k3)
theorem Jw {E:TypeId}{e:Ty}{w:World}{fp:List Nat}{cs:List Value}{x:List e.Den}(h:Own (.sl E e) w fp cs x):∃v:Hdr,cs=[hdV v]:=by
  rcases h with ⟨_,h,_⟩ | ⟨g,cap,cur,fps,_,h,_⟩
  · exact ⟨none,h⟩
  · exact ⟨some (g,0,x.length,cap),h⟩
open Classical in
noncomputable def rdF (E:TypeId) (e:Ty) (w:World) (v:Hdr):List e.Den:=if h:∃x,Rep (.sl E e) w [hdV v] x then h.choose else []
theorem QoJ {E:TypeId}{e:Ty}{w:World}{v:Hdr}{x:List e.Den}(h:Rep (.sl E e) w [hdV v] x):rdF E e w v=x:=by
  have hx:∃x,Rep (.sl E e) w [hdV v] x:=⟨x,h⟩
  unfold rdF
  rw[dif_pos hx]
  exact Qa5 hx.choose_spec h
theorem QbY {E:TypeId}{e:Ty}{w:World}:∀{xs:List (List e.Den)} {fp:List Nat} {cs:List Value},OwnL (Own (.sl E e) w) fp cs xs→∃vs:List Hdr,cs=vs.map hdV∧vs.map (rdF E e w)=xs
  | [],_,_,h=>⟨[],h.2,rfl⟩
  | x :: xs,_,_,⟨f1,f2,c1,c2,h1,h2,h3,h4⟩=>by
    obtain ⟨v,rfl⟩:=Jw h3
    obtain ⟨vs,rfl,k2⟩:=QbY h4
    exact ⟨v :: vs,by rw[h2]; rfl,by rw[aW,k2,QoJ h3.rep]⟩
theorem K8 {E:TypeId}{e:Ty}{w:World}{f:Hdr→List e.Den}:∀{vs:List Hdr} {fp:List Nat},OwnL (Own (.sl E e) w) fp (vs.map hdV) (vs.map f)→∀v∈vs,∃fv,Own (.sl E e) w fv [hdV v] (f v)∧∀g∈fv,g∈fp
  | [],_,_,v,hv=>by cases hv
  | u :: vs,fp,h,v,hv=>by
    obtain ⟨f1,f2,c1,c2,rfl,h2,h3,h4⟩:=h
    obtain ⟨z,rfl⟩:=Jw h3
    simp only[aW,bl,bF,aB] at h2
    obtain ⟨h5,rfl⟩:=h2
    rcases aG.1 hv with rfl | hv
    · exact ⟨f1,by rw[h5]; exact h3,fun g hg=>aT _ hg⟩
    · obtain ⟨fv, k1, k2⟩ := K8 h4 v hv
      exact ⟨fv,k1,fun g hg=>aO _ (k2 g hg)⟩
theorem QgL {w:World}:∀(vs:List Hdr),OwnL (Own .vl w) [] (vs.map hdV) vs
  | []=>⟨rfl,rfl⟩
  | v :: vs=>⟨[],[],[hdV v],vs.map hdV,rfl,rfl,⟨rfl,rfl⟩,QgL vs⟩
theorem QdV {E E':TypeId}{e:Ty}{w:World}{fp:List Nat}{v:Value}{xs:List (List e.Den)}(h:Own (.sl E (.sl E' e)) w fp [v] xs):
    ∃fg fi vs f,fp=fg++fi∧Own (.sl E .vl) w fg [v] vs∧OwnL (Own (.sl E' e) w) fi (vs.map hdV) (vs.map f)∧vs.map f=xs:=by
  rcases h with ⟨rfl,h,rfl⟩ | ⟨g,cap,cur,fps,rfl,h1,h2,h3,h4,h5,h6⟩
  · exact ⟨[],[],[],fun _=>[],rfl, .inl ⟨rfl,h,rfl⟩,⟨rfl,rfl⟩,rfl⟩
  · obtain ⟨vs, k1, k2⟩ := QbY h6
    have hl:vs.length=xs.length:=by rw[← k2,av]
    rw[k1] at h6
    refine ⟨[g],fps,vs,rdF E' e w,rfl, .inr ⟨g,cap,cur,[],rfl,by rw[hl]; exact h1,h2,by omega,h4,h5, ?_⟩,by rw[k2]; exact h6,k2⟩
    have:(cur.toList.take (vs.length*Ty.wd .vl))=vs.map hdV:=by rw[hl]; exact k1
    rw[this]
    exact QgL vs
section
variable {A:Amb}{P:Program}{s:St}{Q:Exit→St→Prop}{c:Code}
theorem R.pool {q:Nat}(p:Nat){E E':TypeId}{e:Ty}{xs:List (List e.Den)}{a:Act}{w:World}(he:s.tab.ent q=some (.arr E (.sl E' e) xs))(hfr:Fresh s p)(hk:A.k0≤p)(r:R A s a w):
    ∃(vs:List Hdr) (f:Hdr→List e.Den),vs.map f=xs∧R A ⟨s.tm,(p,some (.pl false (.sl E' e) vs f)) :: (q,some (.arr E .vl vs)) :: s.tab⟩ a w:=by
  obtain ⟨gh,r⟩:=r
  have hq:s.tab.al q:=⟨_,he⟩
  have hne:q≠p:=fun h=>hfr.al (h▸hq)
  have hO:Own (.sl E (.sl E' e)) w (gh.f q) [gh.h q] xs:=r.cx.en q _ he
  obtain ⟨fg,fi,vs,f,h1,h2,h3,h4⟩:=QdV hO
  have hnd:=r.cx.nd q hq
  rw[h1] at hnd
  obtain ⟨n1,n2,n3⟩:=b7.1 hnd
  have mg:∀g∈fg,g∈gh.f q:=fun g hg=>by rw[h1]; exact aT _ hg
  have mi:∀g∈fi,g∈gh.f q:=fun g hg=>by rw[h1]; exact aO _ hg
  have hal:∀t,Tab.al ((p,some (.pl false (.sl E' e) vs f)) :: (q,some (.arr E .vl vs)) :: s.tab) t→t=p∨(t≠p∧s.tab.al t):=fun t ⟨x,hx⟩=>by
    by_cases e1:t=p
    · exact .inl e1
    · refine .inr ⟨e1, ?_⟩
      rw[Qn,if_neg e1,Qn] at hx
      by_cases e2:t=q
      · rw[e2]; exact hq
      · rw[if_neg e2] at hx; exact ⟨_,hx⟩
  let gh':Gh:=⟨fun t=>if t=p then .slice none 0 0 else gh.h t,fun t=>if t=p then [] else if t=q then fg else gh.f t,fun g=>gh.N g∨g∈fi⟩
  have fq:gh'.f q=fg:=by show (if q=p then [] else if q=q then fg else gh.f q)=fg; rw[if_neg hne,if_pos rfl]
  have fp:gh'.f p=[]:=if_pos rfl
  have fo:∀t,t≠p→t≠q→gh'.f t=gh.f t:=fun t e1 e2=>by show (if t=p then [] else if t=q then fg else gh.f t)=_; rw[if_neg e1,if_neg e2]
  have hh:∀t,t≠p→gh'.h t=gh.h t:=fun t e1=>if_neg e1
  have sub:∀t,t≠p→∀g∈gh'.f t,g∈gh.f t:=fun t e1 g hg=>by
    by_cases e2:t=q
    · rw[e2,fq] at hg; rw[e2]; exact mg g hg
    · rwa [fo t e1 e2] at hg
  have hN:∀g,gh.N g→gh'.N g∧w.heap[g]? =w.heap[g]? :=fun g h=>⟨.inl h,rfl⟩
  refine ⟨vs,f,h4,gh',r.step ⟨fun t x hx=> ?_,fun t t' ht ht' hn g hg hg'=> ?_,fun t ht=> ?_,fun t ht g hg hgN=> ?_,fun g hgN=> ?_⟩ (fun t ht=> ?_) hN (ZR w) (fun _ _ _=>rfl) (fun g hgN=> ?_) fun t ht g hg=> ?_⟩
  · rw [Qn] at hx
    by_cases e1:t=p
    · rw [if_pos e1] at hx
      cases hx
      rw[e1]
      refine ⟨if_pos rfl,fp,fun v hv=> ?_⟩
      obtain ⟨fv,k1,k2⟩:=K8 h3 v hv
      exact k1.rd fun g hg=> .inr (k2 g hg)
    · rw [if_neg e1, Qn] at hx
      by_cases e2:t=q
      · rw [if_pos e2] at hx
        cases hx
        show Own (.sl E .vl) w (gh'.f t) [gh'.h t] vs
        rw[e2,fq,hh q hne]
        exact h2
      · rw [if_neg e2] at hx
        refine (r.cx.en t x hx).mono (fun r' hr' ha=> ?_) hN (hh t e1) (fo t e1 e2) fun _ _=>rfl
        have e3:r'≠p:=fun h=>hfr.en t x hx (h▸hr')
        rcases hal r' ha with h | ⟨_,h⟩
        · exact absurd h e3
        · exact ⟨h,hh r' e3⟩
  · rcases hal t ht with e1 | ⟨e1, a1⟩
    · rw[e1,fp] at hg; cases hg
    · rcases hal t' ht' with e2 | ⟨e2, a2⟩
      · rw[e2,fp] at hg'; cases hg'
      · exact r.cx.dj t t' a1 a2 hn g (sub t e1 g hg) (sub t' e2 g hg')
  · rcases hal t ht with e1 | ⟨e1, a1⟩
    · rw[e1,fp]; exact bH
    · by_cases e2 : t = q
      · rw[e2,fq]; exact n1
      · rw[fo t e1 e2]; exact r.cx.nd t a1
  · rcases hal t ht with e1 | ⟨e1, a1⟩
    · rw[e1,fp] at hg; cases hg
    · rcases hgN with hgN | hgN
      · exact r.cx.no t a1 g (sub t e1 g hg) hgN
      · by_cases e2 : t = q
        · rw[e2,fq] at hg; exact n3 g hg g hgN rfl
        · exact r.cx.dj t q a1 hq e2 g (sub t e1 g hg) (mi g hgN)
  · rcases hgN with hgN | hgN
    · exact r.cx.nl g hgN
    · exact r.cx.lt hq g (mi g hgN)
  · rcases hal t ht with e1 | ⟨e1, a1⟩
    · rw[e1]; exact .inr ⟨hfr,hk⟩
    · exact .inl ⟨a1,hh t e1,fun _=>rfl⟩
  · rcases hgN with hgN | hgN
    · exact .inl hgN
    · exact .inr (.inr ⟨q,hq,mi g hgN,fun hl=>r.xn g hl (r.ox q hq g (mi g hgN) hl)⟩)
  · rcases hal t ht with e1 | ⟨e1, a1⟩
    · rw[e1,fp] at hg; cases hg
    · exact .inr ⟨t,a1,sub t e1 g hg⟩
theorem AC.pool {q:Nat}(p:Nat){E E':TypeId}{e:Ty}{xs:List (List e.Den)}(he:s.tab.ent q=some (.arr E (.sl E' e) xs))(hfr:Fresh s p)(hk:A.k0≤p)
    (k:∀(vs:List Hdr) (f:Hdr→List e.Den),vs.map f=xs→AC A P c Q ⟨s.tm,(p,some (.pl false (.sl E' e) vs f)) :: (q,some (.arr E .vl vs)) :: s.tab⟩):AC A P c Q s:=fun a w r=>by
  obtain ⟨vs,f,h,r'⟩:=R.pool p he hfr hk r
  exact k vs f h a w r'
theorem AL.pool {ops:Array Oper}{l:List Oper}{q:Nat}(p:Nat){E E':TypeId}{e:Ty}{xs:List (List e.Den)}(he:s.tab.ent q=some (.arr E (.sl E' e) xs))(hfr:Fresh s p)(hk:A.k0≤p)
    (k:∀(vs:List Hdr) (f:Hdr→List e.Den),vs.map f=xs→AL A P ops l Q ⟨s.tm,(p,some (.pl false (.sl E' e) vs f)) :: (q,some (.arr E .vl vs)) :: s.tab⟩):AL A P ops l Q s:=fun a w r=>by
  obtain ⟨vs,f,h,r'⟩:=R.pool p he hfr hk r
  exact k vs f h a w r'
theorem Evl.pl {x:Operand}{p:Nat}{e:Ty}{vs:List Hdr}{f:Hdr→e.Den}{v:Hdr}(hx:Evl A s x (.dat .vl v))(hp:s.tab.ent p=some (.pl false e vs f))(hv:v∈vs):Evl A s x (.dat e (f v)):=fun gh a w r=>by
  obtain ⟨_,_,h3⟩:=r.cx.en p _ hp
  have h1:Rd gh.N .vl w [a.eval x] v:=hx gh a w r
  have h2:[a.eval x]=[hdV v]:=h1.rep
  show Rd gh.N e w [a.eval x] (f v)
  rw[h2]
  exact h3 v hv
theorem Qph {i q p:Nat}{E E':TypeId}{e:Ty}{zs vs:List Hdr}{f:Hdr→List e.Den}(hi:lk s.tm i=some (lf (.ref q)))(he:s.tab.ent q=some (.arr E .vl zs))(hp:s.tab.ent p=some (.pl false (.sl E' e) vs f))(hz:∀z∈zs,z∈vs):
    Wk A s ⟨(i,lf (.dat (.sl E (.sl E' e)) (zs.map f))) :: s.tm,(q,none) :: s.tab⟩:=fun a w r=>by
  obtain ⟨gh,r⟩:=r
  obtain ⟨v,h1,l,h2,h3⟩:=r.tm i _ hi
  simp only[aB,and_true] at h2
  subst h2
  have hv:v=gh.h q:=h3 ⟨_,he⟩
  have hO:Own (.sl E .vl) w (gh.f q) [gh.h q] zs:=r.cx.en q _ he
  obtain ⟨_,_,k3⟩:=r.cx.en p _ hp
  refine ⟨_,(r.freeze he).know h1 (pv:=lf (.dat (.sl E (.sl E' e)) (zs.map f))) ⟨_,rfl, ?_⟩⟩
  rw[hv]
  show Rd (fun g=>gh.N g∨g∈gh.f q) (.sl E (.sl E' e)) w [gh.h q] (zs.map f)
  obtain ⟨wM,m1,m2⟩:=Jc (fun g=>gh.N g∨g∈gh.f q) w
  refine ⟨wM,m1, ?_⟩
  rcases hO with ⟨_,g2,g3⟩ | ⟨g,cap,cur,fps,g1,g2,g3,g4,g5,g6,g7⟩
  · subst g3
    exact ⟨none,0,g2,aL _,aw _,fun h=>absurd h (by simp)⟩
  · refine ⟨_, cap, by rw [av]; exact g2, by rw [av]; exact g4, g5, fun _ => ⟨g, 0, rfl, fun j y hy => ?_⟩⟩
    rw[bj] at hy
    obtain ⟨z,hz1,rfl⟩:=bE.1 hy
    obtain ⟨wN,w1,w2⟩:=k3 z (hz z (ai hz1))
    refine ⟨[hdV z],w2.kp (w1.kp fun g' hg'=>m2 g' (.inl hg')),fun b u hu=> ?_⟩
    obtain ⟨fv,ds,o1,o2,o3⟩:=g7.get j z hz1
    have o4:ds=[hdV z]:=o1.2
    subst o4
    have o5:=o3 b u hu
    rw[ba] at o5
    split at o5
    · rw [cN (m2 g (.inr (by rw [g1]; simp)))]
      simp only[World.cell?,g3]
      simpa using o5
    · cases o5
end
end Go.Proofs.YtjaadeknhofhpaaGreat
namespace Go.Proofs.YtjaadeknhofhpaaGreat
set_option maxHeartbeats 4000000
set_option maxRecDepth 100000
open Go.RowKit
section
variable {α:Type}[DecidableEq α][Inhabited α]
omit [Inhabited α] in
omit [Inhabited α] in
end
def Qtv (P:Program)(f:FuncId):Prop:=∀(blk cap:Nat) (zs:List Int) (w:World),Sort.Holds (Value.int .i64) w blk 0 zs.toArray→zs.length≤9223372036854775807→zs.length≤cap→
  Calls P f #[.slice (some ⟨blk,0,none⟩) zs.length cap] w fun e w'=>e= .returned (.slice (some ⟨blk,0,none⟩) (KJ zs).length cap)∧∃q,w'=Sort.putRow (Value.int .i64) (Sort.ahead w q) blk 0 (KJ zs++List.replicate (zs.length - (KJ zs).length) 0).toArray
def Qsp (P:Program)(f:FuncId):Prop:=∀w:World,Calls P f #[.slice none 0 0] w fun e w'=>e= .returned (.slice none 0 0)∧w'=w
def Qr1:Go.Shelf.Ren:=⟨fun | 189=>255 | 125=>228 | 257=>325 | 128=>304 | 129=>305 | 294=>363 | 295=>364 | 296=>365 | 297=>366 | 298=>367 | 299=>368 | 216=>369 | 300=>370 | 301=>371 | 328=>383 | 329=>353 | 330=>354 | 331=>384 | 332=>385 | 215=>306 | 343=>387 | n=>n,fun | 28=>95 | 3=>3 | 46=>253 | 0=>0 | 51=>321 | 53=>119 | 4=>4 | 183=>315 | 182=>314 | 131=>220 | 5=>5 | 9=>9 | 218=>360 | 222=>364 | 228=>383 | 229=>113 | n=>n,fun | n=>n⟩
def Qqw:Go.Shelf.Ren:=⟨fun | 20=>256 | n=>n,fun | 22=>95 | 3=>3 | 4=>4 | 0=>0 | n=>n,fun | n=>n⟩
end Go.Proofs.YtjaadeknhofhpaaGreat
namespace Go.Proofs.YtjaadeknhofhpaaGreat
set_option maxHeartbeats 4000000
set_option maxRecDepth 100000
open Go.RowKit
theorem QeH {w:World}:∀{zs:List Hdr} {fp:List Nat} {cs:List Value},OwnL (Own .vl w) fp cs zs→fp=[]∧cs=zs.map hdV
  | [],_,_,h=>⟨h.1,h.2⟩
  | z :: zs,_,_,⟨f1,f2,c1,c2,h1,h2,h3,h4⟩=>by
    obtain ⟨k1,k2⟩:=QeH h4
    have h5:f1=[]∧c1=[hdV z]:=h3
    exact ⟨by rw[h1,h5.1,k1]; rfl,by rw[h2,h5.2,k2]; rfl⟩
section
variable {E:TypeId}{e:Ty}{w:World}{f:Hdr→List e.Den}
theorem Qea:∀{l vs:List Hdr},l.Sublist vs→∀{fp:List Nat},OwnL (Own (.sl E e) w) fp (vs.map hdV) (vs.map f)→∃fp',fp'.Sublist fp∧OwnL (Own (.sl E e) w) fp' (l.map hdV) (l.map f)
  | _,_, .slnil,fp,h=>⟨[],List.nil_sublist _,⟨rfl,rfl⟩⟩
  | _,_, .cons a s,fp,h=>by
    obtain ⟨f1,f2,c1,c2,rfl,h2,h3,h4⟩:=h
    obtain ⟨z,rfl⟩:=Jw h3
    simp only[aW,bl,bF,aB] at h2
    obtain ⟨_,rfl⟩:=h2
    obtain ⟨fp',k1,k2⟩:=Qea s h4
    exact ⟨fp',k1.trans (List.sublist_append_right ..),k2⟩
  | _,_, .cons_cons a s,fp,h=>by
    obtain ⟨f1,f2,c1,c2,rfl,h2,h3,h4⟩:=h
    obtain ⟨z,rfl⟩:=Jw h3
    simp only[aW,bl,bF,aB] at h2
    obtain ⟨h5,rfl⟩:=h2
    obtain ⟨fp',k1,k2⟩:=Qea s h4
    exact ⟨f1++fp',(cJ _).append k1,⟨f1,fp',[hdV z],_,rfl,by rw[aW,h5]; rfl,h3,k2⟩⟩
theorem Qgu:∀{l vs:List Hdr},vs.Perm l→∀{fp:List Nat},OwnL (Own (.sl E e) w) fp (vs.map hdV) (vs.map f)→∃fp',fp.Perm fp'∧OwnL (Own (.sl E e) w) fp' (l.map hdV) (l.map f):=by
  intro l vs hp
  induction hp with
  | nil=>intro fp h; exact ⟨fp,dd _,h⟩
  | cons a _ ih=>
    intro fp h
    obtain ⟨f1,f2,c1,c2,rfl,h2,h3,h4⟩:=h
    obtain ⟨z,rfl⟩:=Jw h3
    simp only[aW,bl,bF,aB] at h2
    obtain ⟨h5,rfl⟩:=h2
    obtain ⟨fp',k1,k2⟩:=ih h4
    exact ⟨f1++fp',k1.append_left f1,⟨f1,fp',[hdV z],_,rfl,by rw[aW,h5]; rfl,h3,k2⟩⟩
  | swap a b l=>
    intro fp h
    obtain ⟨f1,f2,c1,c2,rfl,h2,h3,h4⟩:=h
    obtain ⟨z,rfl⟩:=Jw h3
    simp only[aW,bl,bF,aB] at h2
    obtain ⟨h5,rfl⟩:=h2
    obtain ⟨g1,g2,d1,d2,rfl,j2,j3,j4⟩:=h4
    obtain ⟨y,rfl⟩:=Jw j3
    simp only[bl,bF,aB] at j2
    obtain ⟨j5,rfl⟩:=j2
    refine ⟨g1++(f1++g2), ?_,⟨g1,f1++g2,[hdV y],hdV z :: l.map hdV,rfl,by rw[aW,aW,h5,j5]; rfl,j3,⟨f1,g2,[hdV z],_,rfl,rfl,h3,j4⟩⟩⟩
    rw[← aI,← aI]
    exact (List.perm_append_comm).append_right g2
  | trans _ _ ih1 ih2=>
    intro fp h
    obtain ⟨fp1,k1,k2⟩:=ih1 h
    obtain ⟨fp2,k3,k4⟩:=ih2 k2
    exact ⟨fp2,k1.trans k3,k4⟩
theorem Qiv {f1 f2:Hdr→List e.Den}{vs2:List Hdr}{g:Hdr→List e.Den}:∀{vs1:List Hdr} {p1 p2:List Nat},OwnL (Own (.sl E e) w) p1 (vs1.map hdV) (vs1.map f1)→OwnL (Own (.sl E e) w) p2 (vs2.map hdV) (vs2.map f2)→
    (∀v∈vs1,g v=f1 v)→(∀v∈vs2,g v=f2 v)→OwnL (Own (.sl E e) w) (p1++p2) ((vs1++vs2).map hdV) ((vs1++vs2).map g)
  | [],p1,p2,h1,h2,_,k2=>by
    rw[show p1=[] from h1.1,bF,bF,ck k2]; exact h2
  | v :: vs1,p1,p2,h1,h2,k1,k2=>by
    obtain ⟨a1,a2,c1,c2,rfl,h3,h4,h5⟩:=h1
    obtain ⟨z,rfl⟩:=Jw h4
    simp only[aW,bl,bF,aB] at h3
    obtain ⟨h6,rfl⟩:=h3
    rw[aI]
    exact ⟨a1,a2++p2,[hdV z],_,rfl,by rw[bl,aW,h6]; rfl,by rw[k1 v (aA ..)]; exact h4,Qiv h5 h2 (fun u hu=>k1 u (aD _ hu)) k2⟩
end
section
variable {A:Amb}{P:Program}{s:St}{Q:Exit→St→Prop}{c:Code}
theorem R.poolO {q:Nat}(p:Nat){E E':TypeId}{e:Ty}{xs:List (List e.Den)}{a:Act}{w:World}(he:s.tab.ent q=some (.arr E (.sl E' e) xs))(hfr:Fresh s p)(hk:A.k0≤p)(r:R A s a w):
    ∃(vs:List Hdr) (f:Hdr→List e.Den),vs.map f=xs∧R A ⟨s.tm,(p,some (.pl true (.sl E' e) vs f)) :: (q,some (.arr E .vl vs)) :: s.tab⟩ a w:=by
  obtain ⟨gh,r⟩:=r
  have hq:s.tab.al q:=⟨_,he⟩
  have hne:q≠p:=fun h=>hfr.al (h▸hq)
  have hO:Own (.sl E (.sl E' e)) w (gh.f q) [gh.h q] xs:=r.cx.en q _ he
  obtain ⟨fg,fi,vs,f,h1,h2,h3,h4⟩:=QdV hO
  have hnd:=r.cx.nd q hq
  rw[h1] at hnd
  obtain ⟨n1,n2,n3⟩:=b7.1 hnd
  have mg:∀g∈fg,g∈gh.f q:=fun g hg=>by rw[h1]; exact aT _ hg
  have mi:∀g∈fi,g∈gh.f q:=fun g hg=>by rw[h1]; exact aO _ hg
  have hal:∀t,Tab.al ((p,some (.pl true (.sl E' e) vs f)) :: (q,some (.arr E .vl vs)) :: s.tab) t→t=p∨(t≠p∧s.tab.al t):=fun t ⟨x,hx⟩=>by
    by_cases e1:t=p
    · exact .inl e1
    · refine .inr ⟨e1, ?_⟩
      rw[Qn,if_neg e1,Qn] at hx
      by_cases e2:t=q
      · rw[e2]; exact hq
      · rw[if_neg e2] at hx; exact ⟨_,hx⟩
  let gh':Gh:=⟨fun t=>if t=p then .slice none 0 0 else gh.h t,fun t=>if t=p then fi else if t=q then fg else gh.f t,gh.N⟩
  have fq:gh'.f q=fg:=by show (if q=p then fi else if q=q then fg else gh.f q)=fg; rw[if_neg hne,if_pos rfl]
  have fp:gh'.f p=fi:=if_pos rfl
  have fo:∀t,t≠p→t≠q→gh'.f t=gh.f t:=fun t e1 e2=>by show (if t=p then fi else if t=q then fg else gh.f t)=_; rw[if_neg e1,if_neg e2]
  have hh:∀t,t≠p→gh'.h t=gh.h t:=fun t e1=>if_neg e1
  have sub:∀t,t≠p→∀g∈gh'.f t,g∈gh.f t:=fun t e1 g hg=>by
    by_cases e2:t=q
    · rw[e2,fq] at hg; rw[e2]; exact mg g hg
    · rwa [fo t e1 e2] at hg
  have dpq:∀t,t≠p→s.tab.al t→∀g∈gh'.f t,g∉fi:=fun t e1 a1 g hg hgi=>by
    by_cases e2:t=q
    · rw[e2,fq] at hg; exact n3 g hg g hgi rfl
    · rw[fo t e1 e2] at hg; exact r.cx.dj t q a1 hq e2 g hg (mi g hgi)
  refine ⟨vs,f,h4,gh',r.step ⟨fun t x hx=> ?_,fun t t' ht ht' hn g hg hg'=> ?_,fun t ht=> ?_,fun t ht g hg hgN=> ?_,r.cx.nl⟩ (fun t ht=> ?_) (fun g h=>⟨h,rfl⟩) (ZR w) (fun _ _ _=>rfl) (fun g hgN=> .inl hgN) fun t ht g hg=> ?_⟩
  · rw [Qn] at hx
    by_cases e1:t=p
    · rw [if_pos e1] at hx
      cases hx
      rw[e1]
      refine ⟨if_pos rfl, ?_⟩
      rw[fp]; exact h3
    · rw [if_neg e1, Qn] at hx
      by_cases e2:t=q
      · rw [if_pos e2] at hx
        cases hx
        show Own (.sl E .vl) w (gh'.f t) [gh'.h t] vs
        rw[e2,fq,hh q hne]
        exact h2
      · rw [if_neg e2] at hx
        refine (r.cx.en t x hx).mono (fun r' hr' ha=> ?_) (fun g h=>⟨h,rfl⟩) (hh t e1) (fo t e1 e2) fun _ _=>rfl
        have e3:r'≠p:=fun h=>hfr.en t x hx (h▸hr')
        rcases hal r' ha with h | ⟨_,h⟩
        · exact absurd h e3
        · exact ⟨h,hh r' e3⟩
  · rcases hal t ht with e1 | ⟨e1, a1⟩
    · rcases hal t' ht' with e2 | ⟨e2, a2⟩
      · exact hn (e1.trans e2.symm)
      · rw[e1,fp] at hg; exact dpq t' e2 a2 g hg' hg
    · rcases hal t' ht' with e2 | ⟨e2, a2⟩
      · rw[e2,fp] at hg'; exact dpq t e1 a1 g hg hg'
      · exact r.cx.dj t t' a1 a2 hn g (sub t e1 g hg) (sub t' e2 g hg')
  · rcases hal t ht with e1 | ⟨e1, a1⟩
    · rw[e1,fp]; exact n2
    · by_cases e2 : t = q
      · rw[e2,fq]; exact n1
      · rw[fo t e1 e2]; exact r.cx.nd t a1
  · rcases hal t ht with e1 | ⟨e1, a1⟩
    · rw[e1,fp] at hg; exact r.cx.no q hq g (mi g hg) hgN
    · exact r.cx.no t a1 g (sub t e1 g hg) hgN
  · rcases hal t ht with e1 | ⟨e1, a1⟩
    · rw[e1]; exact .inr ⟨hfr,hk⟩
    · exact .inl ⟨a1,hh t e1,fun _=>rfl⟩
  · rcases hal t ht with e1 | ⟨e1, a1⟩
    · rw[e1,fp] at hg; exact .inr ⟨q,hq,mi g hg⟩
    · exact .inr ⟨t,a1,sub t e1 g hg⟩
theorem AC.poolO {q:Nat}(p:Nat){E E':TypeId}{e:Ty}{xs:List (List e.Den)}(he:s.tab.ent q=some (.arr E (.sl E' e) xs))(hfr:Fresh s p)(hk:A.k0≤p)
    (k:∀(vs:List Hdr) (f:Hdr→List e.Den),vs.map f=xs→AC A P c Q ⟨s.tm,(p,some (.pl true (.sl E' e) vs f)) :: (q,some (.arr E .vl vs)) :: s.tab⟩):AC A P c Q s:=fun a w r=>by
  obtain ⟨vs,f,h,r'⟩:=R.poolO p he hfr hk r
  exact k vs f h a w r'
theorem AL.poolO {ops:Array Oper}{l:List Oper}{q:Nat}(p:Nat){E E':TypeId}{e:Ty}{xs:List (List e.Den)}(he:s.tab.ent q=some (.arr E (.sl E' e) xs))(hfr:Fresh s p)(hk:A.k0≤p)
    (k:∀(vs:List Hdr) (f:Hdr→List e.Den),vs.map f=xs→AL A P ops l Q ⟨s.tm,(p,some (.pl true (.sl E' e) vs f)) :: (q,some (.arr E .vl vs)) :: s.tab⟩):AL A P ops l Q s:=fun a w r=>by
  obtain ⟨vs,f,h,r'⟩:=R.poolO p he hfr hk r
  exact k vs f h a w r'
theorem Hf {x:Operand}{p:Nat}{E:TypeId}{e:Ty}{vs:List Hdr}{f:Hdr→List e.Den}{v:Hdr}(hx:Evl A s x (.dat .vl v))(hp:s.tab.ent p=some (.pl true (.sl E e) vs f))(hv:v∈vs):EvB A s x (false,[.dat (.sl E e) (f v)]):=fun gh a w r=>by
  obtain ⟨_,h3⟩:=r.cx.en p _ hp
  have h1:Rd gh.N .vl w [a.eval x] v:=hx gh a w r
  have h2:[a.eval x]=[hdV v]:=h1.rep
  obtain ⟨fv,k1,k2⟩:=K8 h3 v hv
  refine ⟨_,rfl, ?_⟩
  have h4:Own (.sl E e) w fv [a.eval x] (f v):=by rw[h2]; exact k1
  exact h4.rd fun g hg=>r.cx.lt ⟨_,hp⟩ g (k2 g hg)
theorem V3 {q p:Nat}{E E':TypeId}{e:Ty}{zs vs:List Hdr}{f:Hdr→List e.Den}(he:s.tab.ent q=some (.arr E .vl zs))(hp:s.tab.ent p=some (.pl true (.sl E' e) vs f))(hz:∃l:List Hdr,l.Perm zs∧l.Sublist vs):
    Wk A s ⟨s.tm,(q,some (.arr E (.sl E' e) (zs.map f))) :: (p,none) :: s.tab⟩:=fun a w r=>by
  obtain ⟨gh,r⟩:=r
  obtain ⟨l,hz1,hz2⟩:=hz
  have hq:s.tab.al q:=⟨_,he⟩
  have hpa:s.tab.al p:=⟨_,hp⟩
  have hne:q≠p:=fun h=>by rw[h,hp] at he; cases he
  have hO:Own (.sl E .vl) w (gh.f q) [gh.h q] zs:=r.cx.en q _ he
  obtain ⟨_,h3⟩:=r.cx.en p _ hp
  obtain ⟨fa,m1,m2⟩:=Qea hz2 h3
  obtain ⟨fb,m3,m4⟩:=Qgu hz1 m2
  have mb:∀g∈fb,g∈gh.f p:=fun g hg=>m1.subset (m3.mem_iff.2 hg)
  have nb:fb.Nodup:=(m3.nodup_iff).1 (m1.nodup (r.cx.nd p hpa))
  have hal:∀t,Tab.al ((q,some (.arr E (.sl E' e) (zs.map f))) :: (p,none) :: s.tab) t→t≠p∧s.tab.al t:=fun t ⟨x,hx⟩=>by
    rw[Qn] at hx
    by_cases e2:t=q
    · rw[e2]; exact ⟨hne,hq⟩
    · rw [if_neg e2, Qn] at hx
      by_cases e1:t=p
      · rw[if_pos e1] at hx; cases hx
      · rw[if_neg e1] at hx; exact ⟨e1,_,hx⟩
  let gh':Gh:=⟨gh.h,fun t=>if t=q then gh.f q++fb else gh.f t,gh.N⟩
  have fq:gh'.f q=gh.f q++fb:=if_pos rfl
  have fo:∀t,t≠q→gh'.f t=gh.f t:=fun t e2=>if_neg e2
  have inn:∀t,s.tab.al t→t≠p→∀g∈gh'.f t,g∈gh.f t∨(t=q∧g∈gh.f p):=fun t _ _ g hg=>by
    by_cases e2:t=q
    · rw [e2, fq] at hg
      rcases aJ.1 hg with hg | hg
      · rw[e2]; exact .inl hg
      · exact .inr ⟨e2,mb g hg⟩
    · rw[fo t e2] at hg; exact .inl hg
  refine ⟨gh',r.step ⟨fun t x hx=> ?_,fun t t' ht ht' hn g hg hg'=> ?_,fun t ht=> ?_,fun t ht g hg hgN=> ?_,r.cx.nl⟩ (fun t ht=> .inl ⟨(hal t ht).2,rfl,fun _=>rfl⟩) (fun g h=>⟨h,rfl⟩) (ZR w) (fun _ _ _=>rfl) (fun g hgN=> .inl hgN) fun t ht g hg=> ?_⟩
  · rw [Qn] at hx
    by_cases e2:t=q
    · rw [if_pos e2] at hx
      cases hx
      show Own (.sl E (.sl E' e)) w (gh'.f t) [gh'.h t] (zs.map f)
      rw[e2,fq]
      rcases hO with ⟨g1,g2,g3⟩ | ⟨g,cap,cur,fps,g1,g2,g3,g4,g5,g6,g7⟩
      · subst g3
        have:fb=[]:=m4.1
        exact .inl ⟨by rw[g1,this]; rfl,g2,rfl⟩
      · obtain ⟨k1, k2⟩ := QeH g7
        refine .inr ⟨g,cap,cur,fb,by rw[g1,k1]; rfl,by rw[av]; exact g2,g3,by rw[av]; exact g4,g5,g6, ?_⟩
        have:cur.toList.take ((zs.map f).length*Ty.wd (.sl E' e))=zs.map hdV:=by rw[av]; exact k2
        rw[this]
        exact m4
    · rw [if_neg e2, Qn] at hx
      by_cases e1:t=p
      · rw[if_pos e1] at hx; cases hx
      · rw [if_neg e1] at hx
        exact (r.cx.en t x hx).mono (fun r' _ ha=>⟨(hal r' ha).2,rfl⟩) (fun g h=>⟨h,rfl⟩) rfl (fo t e2) fun _ _=>rfl
  · obtain ⟨e1, a1⟩ := hal t ht
    obtain ⟨e2,a2⟩:=hal t' ht'
    rcases inn t a1 e1 g hg with h | ⟨h0,h⟩ <;> rcases inn t' a2 e2 g hg' with h' | ⟨h0',h'⟩
    · exact r.cx.dj t t' a1 a2 hn g h h'
    · exact r.cx.dj t p a1 hpa e1 g h h'
    · exact r.cx.dj t' p a2 hpa e2 g h' h
    · exact hn (h0.trans h0'.symm)
  · obtain ⟨e1, a1⟩ := hal t ht
    by_cases e2:t=q
    · rw [e2, fq, b7]
      exact ⟨r.cx.nd q hq,nb,fun x hx y hy e=>r.cx.dj q p hq hpa hne x hx (mb x (e▸hy))⟩
    · rw[fo t e2]; exact r.cx.nd t a1
  · obtain ⟨e1, a1⟩ := hal t ht
    rcases inn t a1 e1 g hg with h | ⟨_,h⟩
    · exact r.cx.no t a1 g h hgN
    · exact r.cx.no p hpa g h hgN
  · obtain ⟨e1, a1⟩ := hal t ht
    rcases inn t a1 e1 g hg with h | ⟨_,h⟩
    · exact .inr ⟨t,a1,h⟩
    · exact .inr ⟨p,hpa,h⟩
theorem R.poolJ {p p2:Nat}{E:TypeId}{e:Ty}{vs vs2:List Hdr}{f f2:Hdr→List e.Den}{a:Act}{w:World}(hp:s.tab.ent p=some (.pl true (.sl E e) vs f))(hp2:s.tab.ent p2=some (.pl true (.sl E e) vs2 f2))(hb:Nat.beq p p2=false)(r:R A s a w):
    ∃g:Hdr→List e.Den,(∀v∈vs,g v=f v)∧(∀v∈vs2,g v=f2 v)∧R A ⟨s.tm,(p,some (.pl true (.sl E e) (vs++vs2) g)) :: (p2,none) :: s.tab⟩ a w:=by
  classical
  obtain ⟨gh,r⟩:=r
  have hne:p≠p2:=fun h=>by rw[h,cF] at hb; cases hb
  have hpa:s.tab.al p:=⟨_,hp⟩
  have hpb:s.tab.al p2:=⟨_,hp2⟩
  obtain ⟨n1,h1⟩:=r.cx.en p _ hp
  obtain ⟨n2,h2⟩:=r.cx.en p2 _ hp2
  let g:Hdr→List e.Den:=fun v=>if v∈vs then f v else f2 v
  have g1:∀v∈vs,g v=f v:=fun v hv=>if_pos hv
  have g2:∀v∈vs2,g v=f2 v:=fun v hv=>by
    by_cases h:v∈vs
    · obtain ⟨fv, k1, _⟩ := K8 h1 v h
      obtain ⟨fv',k1',_⟩:=K8 h2 v hv
      exact (if_pos h).trans (Qa5 k1.rep k1'.rep)
    · exact if_neg h
  have hal:∀t,Tab.al ((p,some (.pl true (.sl E e) (vs++vs2) g)) :: (p2,none) :: s.tab) t→t≠p2∧s.tab.al t:=fun t ⟨x,hx⟩=>by
    rw[Qn] at hx
    by_cases e2:t=p
    · rw[e2]; exact ⟨hne,hpa⟩
    · rw [if_neg e2, Qn] at hx
      by_cases e1:t=p2
      · rw[if_pos e1] at hx; cases hx
      · rw[if_neg e1] at hx; exact ⟨e1,_,hx⟩
  let gh':Gh:=⟨gh.h,fun t=>if t=p then gh.f p++gh.f p2 else gh.f t,gh.N⟩
  have fq:gh'.f p=gh.f p++gh.f p2:=if_pos rfl
  have fo:∀t,t≠p→gh'.f t=gh.f t:=fun t e2=>if_neg e2
  have inn:∀t,∀x∈gh'.f t,x∈gh.f t∨(t=p∧x∈gh.f p2):=fun t x hg=>by
    by_cases e2:t=p
    · rw [e2, fq] at hg
      rcases aJ.1 hg with hg | hg
      · rw[e2]; exact .inl hg
      · exact .inr ⟨e2,hg⟩
    · rw[fo t e2] at hg; exact .inl hg
  refine ⟨g,g1,g2,gh',r.step ⟨fun t x hx=> ?_,fun t t' ht ht' hn x hg hg'=> ?_,fun t ht=> ?_,fun t ht x hg hgN=> ?_,r.cx.nl⟩ (fun t ht=> .inl ⟨(hal t ht).2,rfl,fun _=>rfl⟩) (fun x h=>⟨h,rfl⟩) (ZR w) (fun _ _ _=>rfl) (fun x hgN=> .inl hgN) fun t ht x hg=> ?_⟩
  · rw [Qn] at hx
    by_cases e2:t=p
    · rw [if_pos e2] at hx
      cases hx
      rw[e2]
      refine ⟨n1, ?_⟩
      rw[fq]
      exact Qiv h1 h2 g1 g2
    · rw [if_neg e2, Qn] at hx
      by_cases e1:t=p2
      · rw[if_pos e1] at hx; cases hx
      · rw [if_neg e1] at hx
        exact (r.cx.en t x hx).mono (fun r' _ ha=>⟨(hal r' ha).2,rfl⟩) (fun x h=>⟨h,rfl⟩) rfl (fo t e2) fun _ _=>rfl
  · obtain ⟨e1, a1⟩ := hal t ht
    obtain ⟨e2,a2⟩:=hal t' ht'
    rcases inn t x hg with h | ⟨h0,h⟩ <;> rcases inn t' x hg' with h' | ⟨h0',h'⟩
    · exact r.cx.dj t t' a1 a2 hn x h h'
    · exact r.cx.dj t p2 a1 hpb e1 x h h'
    · exact r.cx.dj t' p2 a2 hpb e2 x h' h
    · exact hn (h0.trans h0'.symm)
  · obtain ⟨e1, a1⟩ := hal t ht
    by_cases e2:t=p
    · rw [e2, fq, b7]
      exact ⟨r.cx.nd p hpa,r.cx.nd p2 hpb,fun x hx y hy e=>r.cx.dj p p2 hpa hpb hne x hx (e▸hy)⟩
    · rw[fo t e2]; exact r.cx.nd t a1
  · obtain ⟨e1, a1⟩ := hal t ht
    rcases inn t x hg with h | ⟨_,h⟩
    · exact r.cx.no t a1 x h hgN
    · exact r.cx.no p2 hpb x h hgN
  · obtain ⟨e1, a1⟩ := hal t ht
    rcases inn t x hg with h | ⟨_,h⟩
    · exact .inr ⟨t,a1,h⟩
    · exact .inr ⟨p2,hpb,h⟩
theorem AL.poolJ {ops:Array Oper}{l:List Oper}{p p2:Nat}{E:TypeId}{e:Ty}{vs vs2:List Hdr}{f f2:Hdr→List e.Den}(hp:s.tab.ent p=some (.pl true (.sl E e) vs f))(hp2:s.tab.ent p2=some (.pl true (.sl E e) vs2 f2))(hb:Nat.beq p p2=false)
    (k:∀g:Hdr→List e.Den,(∀v∈vs,g v=f v)→(∀v∈vs2,g v=f2 v)→AL A P ops l Q ⟨s.tm,(p,some (.pl true (.sl E e) (vs++vs2) g)) :: (p2,none) :: s.tab⟩):AL A P ops l Q s:=fun a w r=>by
  obtain ⟨g,h1,h2,r'⟩:=R.poolJ hp hp2 hb r
  exact k g h1 h2 a w r'
theorem AC.poolJ {p p2:Nat}{E:TypeId}{e:Ty}{vs vs2:List Hdr}{f f2:Hdr→List e.Den}(hp:s.tab.ent p=some (.pl true (.sl E e) vs f))(hp2:s.tab.ent p2=some (.pl true (.sl E e) vs2 f2))(hb:Nat.beq p p2=false)
    (k:∀g:Hdr→List e.Den,(∀v∈vs,g v=f v)→(∀v∈vs2,g v=f2 v)→AC A P c Q ⟨s.tm,(p,some (.pl true (.sl E e) (vs++vs2) g)) :: (p2,none) :: s.tab⟩):AC A P c Q s:=fun a w r=>by
  obtain ⟨g,h1,h2,r'⟩:=R.poolJ hp hp2 hb r
  exact k g h1 h2 a w r'
end
section
variable {A:Amb}{P:Program}{s:St}{f:FuncId}{xs:List Operand}{tys:Array TypeId}{args:List (Bool×List LV)}{d:Nat}{ty:TypeId}{pos:String}{af:Array Edge}{g:Option (Nat×Bool)}{pv:PV}
theorem Qcz {x0:Operand}(hc:FC P f args [] 0 (Yj pv))(hE:Qt P f)(h0:Evl A s x0 (.clo f []))(ha:EvLB A s xs args)(ht:pv.tags=[])(hf:pv.fl=true)(hn:Nat.blt d A.n=true):
    Does A P ⟨some d, .call ⟨.value x0,xs.toArray,tys⟩,ty,pos,af,g⟩ s (s.put d pv):=fun a w K Q r hK=>by
  obtain ⟨gh,r⟩:=r
  have hx:a.eval x0= .func (.func f) #[] #[]:=h0 gh a w r (by intro q hq; cases hq)
  have hv:=ha.cms r
  have hcl:Y5 pv []=true:=by simp[Y5,ht,Yr]
  refine Qen (cs:=[]) hE rfl hx (by
    rw[bt]
    refine Calls.mono (hc ⟨gh.h,gh.f,fun g=>g < w.heap.size⟩ w _ (Vs Z6 _ w fun g hg=>hg) hv) fun e w' he=> ?_
    obtain ⟨v,pv',T,gh',rfl,⟨rfl,rfl⟩,cx,hp,fr,_⟩:=he
    obtain ⟨c1,c2⟩:=HU hcl
    have hfr:∀q,Tab.al [] q→Fresh s (A.k0+q):=fun q hq=>absurd hq (Z6 q)
    have r2:=r.after A.k0 hfr (aL _) (cx.fl rfl) fr.gw (fun g hg=>fr.kp g hg fun q hq=>absurd hq (Z6 q)) (fun q hq g hg=>by
      rcases fr.ox q hq g hg with h | ⟨q',h,_⟩
      · exact h
      · exact absurd h (Z6 q')) (fun g hg=>hg.elim) fun q e he r hr=> .inl (c2 q e he r hr)
    have r3:=Qhi (gh2:=gh) hfr c1 r2 (hp.fl (N:=fun _=>False) hf) (fun g hg=>hg.elim) hn
    rw[St.back,PV.ren_id ht] at r3
    exact hK _ _ r3)
end
end Go.Proofs.YtjaadeknhofhpaaGreat
namespace Go.Proofs.YtjaadeknhofhpaaGreat
set_option maxHeartbeats 4000000
set_option maxRecDepth 100000
open Go.RowKit
def ltP:List Int→List Int→Bool
  | [],[]=>false
  | [],_ :: _=>true
  | _ :: _,[]=>false
  | x :: a,y :: b=>if x < y then true else if y < x then false else ltP a b
def Qfg (x y:Int):Int:=if x < y then -1 else if y < x then 1 else 0
def Jv:List Int→List Int→Int
  | [],[]=>0
  | [],_ :: _=> -1
  | _ :: _,[]=>1
  | x :: a,y :: b=>if Qfg x y=0 then Jv a b else Qfg x y
theorem HK:∀a,ltP a a=false
  | []=>rfl
  | x :: a=>by simp[ltP,HK a]
theorem Qed:∀a b c,ltP a b=true→ltP b c=true→ltP a c=true
  | [],[],_,h,_=>by cases h
  | [],_ :: _,[],_,h=>by cases h
  | [],_ :: _,_ :: _,_,_=>rfl
  | _ :: _,[],_,h,_=>by cases h
  | _ :: _,_ :: _,[],_,h=>by cases h
  | x :: a,y :: b,z :: c,h1,h2=>by
    unfold ltP at h1 h2 ⊢
    split at h1
    · split at h2
      · rw[if_pos (by omega)]
      · split at h2
        · cases h2
        · rw[if_pos (by omega)]
    · split at h1
      · cases h1
      · split at h2
        · rw[if_pos (by omega)]
        · split at h2
          · cases h2
          · rw[if_neg (by omega),if_neg (by omega)]; exact Qed a b c h1 h2
theorem QbC:∀a b,ltP a b=true∨a=b∨ltP b a=true
  | [],[]=> .inr (.inl rfl)
  | [],_ :: _=> .inl rfl
  | _ :: _,[]=> .inr (.inr rfl)
  | x :: a,y :: b=>by
    unfold ltP
    by_cases h1:x < y
    · exact .inl (if_pos h1)
    · by_cases h2 : y < x
      · exact .inr (.inr (if_pos h2))
      · have e : x = y := by omega
        rw[if_neg h1,if_neg h2,if_neg h2,if_neg h1]
        rcases QbC a b with h | h | h
        · exact .inl h
        · exact .inr (.inl (by rw[e,h]))
        · exact .inr (.inr h)
theorem Qfc:TO ltP:=⟨HK,Qed,QbC⟩
theorem QcX:∀a b,(Jv a b < 0)↔ltP a b=true
  | [],[]=>by simp[Jv,ltP]
  | [],_ :: _=>by simp[Jv,ltP]
  | _ :: _,[]=>by simp[Jv,ltP]
  | x :: a,y :: b=>by
    unfold Jv ltP Qfg
    by_cases h1:x < y
    · simp[h1]
    · by_cases h2 : y < x
      · simp[h1,h2]
      · simp[h1,h2,QcX a b]
theorem Qmz {a b:List Int}{k:Nat}{x y:Int}(hx:a[k]? =some x)(hy:b[k]? =some y):Jv (a.drop k) (b.drop k)=if Qfg x y=0 then Jv (a.drop (k+1)) (b.drop (k+1)) else Qfg x y:=by
  obtain ⟨h1,e1⟩:=au.1 hx
  obtain ⟨h2,e2⟩:=au.1 hy
  rw[bL h1,bL h2,e1,e2]; rfl
theorem Qri {a b:List Int}{k:Nat}(h:k < a.length)(hb:b.length≤k):Jv (a.drop k) (b.drop k)=1:=by
  rw[bL h,bk hb]; rfl
theorem Qrv {a b:List Int}{k:Nat}(h:a.length≤k):Jv (a.drop k) (b.drop k)=if k < b.length then -1 else 0:=by
  rw[bk h]
  by_cases hb:k < b.length
  · rw[bL hb,if_pos hb]; rfl
  · rw[bk (by omega),if_neg hb]; rfl
theorem QfA (x:Int)(w:World):Calls Tryz.prog 306 #[.int .i64 x] w fun e w'=>e= .returned (.bool false)∧w'=w:=by
  go_enter Tryz.func306,Tryz.ntmps306
  go_wp2
  go_ret
  exact ⟨by simp,rfl⟩
theorem Qpm (x y:Int)(w:World):Calls Tryz.prog 229 #[.int .i64 x, .int .i64 y] w fun e w'=>e= .returned (.int .i64 (Qfg x y))∧w'=w:=by
  go_enter Tryz.func229,Tryz.ntmps229
  go_wp2_with fail
  refine (QfA _ _).mono ?_
  rintro e w1 ⟨rfl,rfl⟩
  go_wp2_with fail
  refine (QfA _ _).mono ?_
  rintro e w1 ⟨rfl,rfl⟩
  by_cases h1:x < y
  · have hd := aK h1
    go_wp2
    go_ret
    exact ⟨by simp[Qfg,h1],rfl⟩
  · have hd := aP h1
    by_cases h2:y < x
    · have hd2 := aK h2
      go_wp2
      go_ret
      exact ⟨by simp[Qfg,h1,h2],rfl⟩
    · have hxy : x = y := by omega
      have hd2:=aP h2
      go_wp2
      go_ret
      exact ⟨by simp[Qfg,hxy],rfl⟩
theorem QcA (u v:Value)(a b:List Int)(w:World)(ha:Rep Qs w [u] a)(hb:Rep Qs w [v] b):Calls Tryz.prog 122 #[u,v] w fun e w'=>e= .returned (.int .i64 (Jv a b))∧w'=w:=by
  obtain ⟨A,c,rfl,hl,hc⟩:=ha.slv
  obtain ⟨B,d,rfl,hl2,hd⟩:=hb.slv
  have hm:a.length≤9223372036854775807:=by unfold maxLen at hc; omega
  have hm2:b.length≤9223372036854775807:=by unfold maxLen at hd; omega
  go_enter Tryz.func122,Tryz.ntmps122
  go_wp2
  go_loopw [11] (fun i wr=>∃k:Nat,k≤a.length∧k≤b.length∧i= .int .i64 k∧Jv a b=Jv (a.drop k) (b.drop k)∧wr=w) (fun i _=>a.length - (intOf i).toNat)
  case atStart=>exact ⟨0,aw _,aw _,rfl,rfl,rfl⟩
  case round=>
    obtain ⟨k,hk,hkb,rfl,heq,rfl⟩:=hrel
    have HE:=hid heq
    clear heq
    by_cases hlt:k < a.length
    · obtain ⟨b1, o1, v1, rfl, hx, c1⟩ := ha.at1 rfl (ap hlt)
      have HX:=hid (ap hlt)
      generalize hxk:a[k]=x at*
      clear hxk
      obtain ⟨rfl, -⟩:=hx.int_
      clear hx
      by_cases hlb:k < b.length
      · obtain ⟨b2, o2, v2, rfl, hy, c2⟩ := hb.at1 rfl (ap hlb)
        have HY:=hid (ap hlb)
        generalize hyk:b[k]=y at*
        clear hyk
        obtain ⟨rfl, -⟩:=hy.int_
        clear hy
        have hge:decide ((b.length:Int)≤(k:Int))=false:=aP (by omega)
        go_wp2_with fail
        refine (Qpm _ _ _).mono ?_
        rintro e w1 ⟨rfl,rfl⟩
        have HC:=hid (Qmz HX.out HY.out)
        by_cases hz:Qfg x y=0
        · have hdz := aK hz
          have HZ:=hid hz
          go_wp2
          go_roundw
          case rel=>exact ⟨k+1,by omega,by omega,by go_num,by rw[HE.out,HC.out,if_pos HZ.out],by first | rfl | trivial⟩
          case measure=>simp[intOf]; omega
        · have hdz := aP hz
          have HZ:=hid hz
          go_wp2
          go_ret
          exact ⟨by rw[HE.out,HC.out,if_neg HZ.out] <;> rfl,rfl⟩
      · have hge : decide ((b.length : Int) ≤ (k : Int)) = true := aK (by omega)
        have HC:=hid (Qri (b:=b) hlt (by omega))
        go_wp2
        go_ret
        exact ⟨by rw[HE.out,HC.out] <;> rfl,rfl⟩
    · have HC := hid (Qrv (b := b) (k := k) (a := a) (by omega))
      have hk2:k=a.length:=by omega
      by_cases hlb:k < b.length
      · have hd1 : decide ((a.length : Int) < (b.length : Int)) = true := aK (by omega)
        go_wp2
        go_ret
        exact ⟨by rw[HE.out,HC.out,if_pos hlb] <;> rfl,rfl⟩
      · have hd1 : decide ((a.length : Int) < (b.length : Int)) = false := aP (by omega)
        go_wp2
        go_ret
        exact ⟨by rw[HE.out,HC.out,if_neg hlb] <;> rfl,rfl⟩
end Go.Proofs.YtjaadeknhofhpaaGreat
