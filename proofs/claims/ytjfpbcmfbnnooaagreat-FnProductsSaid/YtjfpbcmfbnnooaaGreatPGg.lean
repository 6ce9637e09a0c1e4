import Derived.Test.YtjfpbcmfbnnooaaGreatPGb
set_option linter.all false
namespace Go.Proofs.YtjfpbcmfbnnooaaGreat
open Go.RowKit Tryz
set_option maxRecDepth 100000
set_option maxHeartbeats 4000000
def lpS (S p:List Int)(a:DAr):List Int:=if a.1∈S∧a.2.2.2∈S then (p.set a.1.toNat (min (mAt p a.1) (mAt p a.2.2.2))).set a.2.2.2.toNat (min (mAt p a.1) (mAt p a.2.2.2)) else p
def lpR (as_:List DAr)(S p:List Int):List Int:=as_.foldl (lpS S) p
def lpZ (n:Nat):List Int:=(List.range n).map fun k:Nat=>(k:Int)
noncomputable def rm (as_:List DAr) (S:List Int) (k:Int):Int:=(S.find? (cnB as_ S k)).getD k
def spF (S p:List Int)(k:Int)(i:Nat):Option Int:=if (i:Int)∈S∧mAt p (i:Int)=k then some (i:Int) else none
def lbG (S p:List Int)(n:Nat)(k:Nat):Option (List Int):=if 0<((rg (spF S p (k:Int)) n).length:Int) then some (rg (spF S p (k:Int)) n) else none
section
variable {as_ bs:List DAr}{a:DAr}{S p q:List Int}{x y u v w z:Int}{k i j n:Nat}{P:Nat→Prop}[DecidablePred P]
theorem Jw (o:Srt S)(d:u∈S):rm as_ S u∈S∧Cn as_ S u (rm as_ S u)∧∀v,Cn as_ S u v→rm as_ S u≤v:=by
 unfold rm
 cases h:S.find? (cnB as_ S u) with
 | none=>
  grind [List.find?_eq_none,Qag,Qb6]
 | some m=>
  obtain ⟨b,r,s,c,l⟩:=List.find?_eq_some_iff_append.1 h
  have e:m∈S:=by rw[c];simp
  refine ⟨e,Qag.1 b,fun v f=> ?_⟩
  have g:=QhK d f
  grind [Qag,List.pairwise_cons,ltI,Int.le_of_lt]
theorem Qp5 (c:Srt S)(b:u∈S)(h:Cn as_ S u v):rm as_ S u=rm as_ S v:=by
 obtain ⟨r,f,g⟩:=Jw c b (as_:=as_)
 obtain ⟨o,d,e⟩:=Jw c (QhK b h) (as_:=as_)
 have l:=g _ (Ko h d)
 have m:=e _ (Ko (QiR b h) f)
 omega
structure LpI (as_:List DAr) (S:List Int) (n:Nat) (p:List Int):Prop where
  len:p.length=n
  ch:∀u∈S,Cn as_ S u (mAt p u)
  le:∀u∈S,mAt p u≤u
abbrev InN (S:List Int)(n:Nat):Prop:=∀u∈S,0≤u∧u<(n:Int)
theorem Qpu (b:p.length=n)(c:0≤u∧u<(n:Int))(hv:0≤v):mAt (p.set u.toNat x) v=if v=u then x else mAt p v:=by
 grind [mAt]
theorem Qgy (e:InN S n)(d:p.length=n)(b:a.1∈S)(c:a.2.2.2∈S)(hv:0≤v):mAt (lpS S p a) v=if v=a.1∨v=a.2.2.2 then min (mAt p a.1) (mAt p a.2.2.2) else mAt p v:=by
 unfold lpS
 rw[if_pos ⟨b,c⟩,Qpu (by rw[ax];exact d) (e _ c) hv,Qpu d (e _ b) hv]
 grind
def QnU (h:¬(a.1∈S∧a.2.2.2∈S)):lpS S p a=p:=if_neg h
def LpI.step (d:InN S n)(h:LpI as_ S n p)(l:a∈as_):LpI as_ S n (lpS S p a):=by
 by_cases b:a.1∈S∧a.2.2.2∈S
 ·refine ⟨by unfold lpS;rw[if_pos b];simp[h.len],fun u c=> ?_,fun u c=> ?_⟩
  ·rw[Qgy d h.len b.1 b.2 (d u c).1]
   split
   ·rename_i e
    have f:=Qb5 (as_:=as_) b.1 b.2 l (.inl ⟨rfl,rfl⟩)
    have g:=Qb5 (as_:=as_) b.2 b.1 l (.inr ⟨rfl,rfl⟩)
    have c1:=h.ch _ b.1
    have c2:=h.ch _ b.2
    rw[Int.min_def]
    split
    ·rcases e with rfl|rfl
     ·exact c1
     ·exact Ko g c1
    ·rcases e with rfl|rfl
     ·exact Ko f c2
     ·exact c2
   ·exact h.ch u c
  ·rw[Qgy d h.len b.1 b.2 (d u c).1]
   split
   ·rename_i e
    have:=h.le _ b.1
    have:=h.le _ b.2
    rcases e with rfl|rfl <;> omega
   ·exact h.le u c
 ·rw[QnU b];exact h
def LpI.rm_le (c:Srt S)(h:LpI as_ S n p)(b:u∈S):rm as_ S u≤mAt p u:=(Jw c b).2.2 _ (h.ch u b)
abbrev VR (as_:List DAr)(S p:List Int)(u:Int):Prop:=mAt p u=rm as_ S u
theorem Qgg (c:Srt S)(f:InN S n)(h:LpI as_ S n p)(l:a∈as_)(m:u∈S)(d:VR as_ S p u):VR as_ S (lpS S p a) u:=by
 by_cases b:a.1∈S∧a.2.2.2∈S
 ·show mAt _ _=_
  rw[Qgy f h.len b.1 b.2 (f u m).1]
  split
  ·rename_i e
   have g:=Qp5 c b.1 (Qb5 (as_:=as_) b.1 b.2 l (.inl ⟨rfl,rfl⟩))
   have o:=h.rm_le c b.1
   have r:=h.rm_le c b.2
   grind
  ·exact d
 ·rw[QnU b];exact d
theorem Qt8 (e:Srt S)(d:InN S n)(h:LpI as_ S n p)(l:a∈as_)(b:a.1∈S)(c:a.2.2.2∈S)(f:VR as_ S p a.1∨VR as_ S p a.2.2.2):VR as_ S (lpS S p a) a.1∧VR as_ S (lpS S p a) a.2.2.2:=by
 have g:=Qp5 e b (Qb5 (as_:=as_) b c l (.inl ⟨rfl,rfl⟩))
 have r:=h.rm_le e b
 have s:=h.rm_le e c
 have f:mAt p a.1=rm as_ S a.1∨mAt p a.2.2.2=rm as_ S a.2.2.2:=f
 have m:=Qgy d h.len b c (d _ b).1
 have o:=Qgy d h.len b c (d _ c).1
 grind
def QxU (e:InN S n)(c:∀a∈bs,a∈as_)(h:LpI as_ S n p):LpI as_ S n (bs.foldl (lpS S) p):=by
 induction bs generalizing p with
 | nil=>exact h
 | cons a l f=>exact f (fun b d=>c b (az _ d)) (h.step e (c a (aA ..)))
def Qjf (g:Srt S)(f:InN S n)(c:∀a∈bs,a∈as_)(h:LpI as_ S n p)(o:u∈S)(e:VR as_ S p u):VR as_ S (bs.foldl (lpS S) p) u:=by
 induction bs generalizing p with
 | nil=>exact e
 | cons a l r=>
  have d:=c a (aA ..)
  exact r (fun b m=>c b (az _ m)) (h.step f d) (Qgg g f h d o e)
def QuO (g:Srt S)(d:InN S n)(e:∀a∈bs,a∈as_)(h:LpI as_ S n p)(m:a∈bs)(o:a.1∈S)(r:a.2.2.2∈S)(t:VR as_ S p a.1∨VR as_ S p a.2.2.2):VR as_ S (bs.foldl (lpS S) p) a.1∧VR as_ S (bs.foldl (lpS S) p) a.2.2.2:=by
 induction bs generalizing p with
 | nil=>cases m
 | cons b l D=>
  have f:=e b (aA ..)
  have s:=fun c C=>e c (az _ C)
  rcases aK.1 m with rfl|m
  ·obtain ⟨A,B⟩:=Qt8 g d h f o r t
   exact ⟨Qjf (bs:=l) g d s (h.step d f) o A,Qjf (bs:=l) g d s (h.step d f) r B⟩
  ·exact D s (h.step d f) m (t.imp (Qgg g d h f o) (Qgg g d h f r))
noncomputable def finB (as_:List DAr) (S p:List Int) (u:Int):Bool:=decide (mAt p u=rm as_ S u)
theorem QeK {f g:Int→Bool}:∀{l:List Int},(∀x∈l,f x=true→g x=true)→(l.filter g).length≤(l.filter f).length→∀x∈l,g x=true→f x=true
 | [],_,_,x,hx,_=>by cases hx
 | y::l,hfg,hl,x,hx,hg=>by
  have e:=hfg y (aA ..)
  have d:∀z∈l,f z=true→g z=true:=fun z m=>hfg z (az _ m)
  have h:∀{l:List Int},(∀z∈l,f z=true→g z=true)→(l.filter f).length≤(l.filter g).length:=by
   intro l
   induction l with
   | nil=>intro _;exact aP _
   | cons a l r=>
    grind
  have o:=h d
  rw[dn,dn] at hl
  cases c:f y with
  | true=>
   rw[c,e c] at hl
   simp at hl
   rcases aK.1 hx with rfl|hx
   ·exact c
   ·exact QeK d hl x hx hg
  | false=>
   cases b:g y with
   | true=>rw[c,b] at hl;simp at hl;omega
   | false=>
    rw[c,b] at hl
    simp at hl
    rcases aK.1 hx with rfl|hx
    ·rw[b] at hg;cases hg
    ·exact QeK d hl x hx hg
theorem Qxw (hS:Srt S)(hn:InN S n)(h:LpI as_ S n p)(hc:∀a∈as_,a.1∈S→a.2.2.2∈S→(VR as_ S p a.1∨VR as_ S p a.2.2.2)→VR as_ S p a.1∧VR as_ S p a.2.2.2):∀u∈S,VR as_ S p u:=fun u hu=>by
 obtain ⟨g1,g2,g3⟩:=Jw hS hu (as_:=as_)
 have base:VR as_ S p (rm as_ S u):=by
  have e:=Qp5 hS hu g2
  have r1:=h.rm_le hS g1
  have r2:=h.le _ g1
  show mAt _ _=_
  omega
 have key:∀v,Cn as_ S (rm as_ S u) v→VR as_ S p v:=fun v hv=>by
  induction hv with
  | base h1=>rw[h1];exact base
  | @step b h1 h2 _ ih=>
   grind [QeF,QhK]
 exact key u (QiR hu g2)
def Qux (b:InN S n)(h:LpI as_ S n p):∀j,LpI as_ S n (Ze (lpR as_ S) j p)
 | 0=>h
 | j+1=>QxU b (fun _ h=>h) (Qux b h j)
def Quw (o:Srt S)(m:InN S n)(h:LpI as_ S n p):∀j,(∀u∈S,VR as_ S (Ze (lpR as_ S) j p) u)∨j≤(S.filter (finB as_ S (Ze (lpR as_ S) j p))).length
 | 0=> .inr (aL _)
 | j+1=>by
  have s:=Qux m h j
  have c:∀u∈S,VR as_ S (Ze (lpR as_ S) j p) u→VR as_ S (Ze (lpR as_ S) (j+1) p) u:=fun u b e=>Qjf o m (fun _ h=>h) s b e
  rcases Quw o m h j with g|g
  ·exact .inl fun u b=>c u b (g u b)
  ·by_cases t:j+1≤(S.filter (finB as_ S (Ze (lpR as_ S) (j+1) p))).length
   ·exact .inr t
   ·left
    have r:=QeK (f:=finB as_ S (Ze (lpR as_ S) j p)) (g:=finB as_ S (Ze (lpR as_ S) (j+1) p)) (l:=S) (fun u b e=>ay (c u b (aa e))) (by omega)
    have d:∀u∈S,VR as_ S (Ze (lpR as_ S) (j+1) p) u→VR as_ S (Ze (lpR as_ S) j p) u:=fun u b e=>aa (r u b (ay e))
    exact fun u b=>c u b (Qxw o m s (fun a C A B e=>by
     obtain ⟨D,E⟩:=QuO o m (fun _ h=>h) s C A B e
     exact ⟨d _ A D,d _ B E⟩) u b)
def QxN (c:Srt S)(d:InN S n)(h:LpI as_ S n p):∀u∈S,mAt (Ze (lpR as_ S) n p) u=rm as_ S u:=by
 rcases Quw c d h n with g|g
 ·exact g
 ·have m:=QjJ c d
  have b:=QeK (f:=finB as_ S (Ze (lpR as_ S) n p)) (g:=fun _=>true) (l:=S) (fun _ _ _=>rfl) (by rw[dr.2 fun _ _=>rfl];omega)
  exact fun u e=>aa (b u e rfl)
def QuP (h:0≤u∧u<(n:Int)):mAt (lpZ n) u=u:=by
 unfold mAt lpZ
 rw[bl,List.getElem?_range (by omega)]
 simp;omega
def QxV (c:InN S n):LpI as_ S n (lpZ n):=⟨by simp[lpZ],fun u b=>by rw[QuP (c u b)];exact Qb6,fun u b=>by rw[QuP (c u b)];exact cR _⟩
theorem Qjz {f:Nat→Option Int}(c:∀i y,f i=some y→y=(i:Int)):Srt (rg f n):=by
 induction n with
 | zero=>exact co
 | succ n b=>
  have e:rg f (n+1)=rg f n++(f n).toList:=by
   grind [rg,List.range_succ]
  rw[e]
  refine List.pairwise_append.2 ⟨b,?_,fun x d y g=> ?_⟩
  ·grind
  ·grind [QgP,ltI]
theorem QBM (c:Srt S)(g:InN S n)(r:∀u∈S,mAt p u=rm as_ S u)(b:x∈S)(l:repB as_ S x=true):rg (spF S p x) n=cls as_ S x:=by
 refine Xt.ext (Qjz fun i y h=>by unfold spF at h;split at h;exact (bD h).symm;cases h) (Qw5 c) fun v=> ?_
 rw[QgP,QoU b]
 unfold spF
 have m:rm as_ S x=x:=by
  obtain ⟨d,e,f⟩:=Jw c b (as_:=as_)
  have:=f x Qb6
  have:=Qp0.1 l _ d e
  omega
 constructor
 ·grind [Jw,QiR]
 ·intro h
  have o:=QhK b h
  have:=g v o
  refine ⟨v.toNat,by omega,?_⟩
  grind [Qp5]
def QyG (e:Srt S)(h:∀u∈S,mAt p u=rm as_ S u)(l:¬(x∈S∧repB as_ S x=true)):rg (spF S p x) n=[]:=by
 rw[QBF]
 intro j _
 unfold spF
 refine if_neg fun g=>l ?_
 obtain ⟨b,c,d⟩:=Jw e g.1 (as_:=as_)
 rw[← h _ g.1,g.2] at b c d
 exact ⟨b,Qp0.2 fun v _ f=>d v (Ko c f)⟩
def QBN (b:Srt S)(c:InN S n)(d:∀u∈S,mAt p u=rm as_ S u):rg (lbG S p n) n=regV as_ S:=by
 have e:rg (lbG S p n) n=(rg (fun i:Nat=>if (i:Int)∈S∧repB as_ S (i:Int)=true then some (i:Int) else none) n).map (cls as_ S):=by
  unfold rg
  rw[List.map_filterMap]
  congr 1
  funext i
  show lbG S p n i=_
  unfold lbG
  by_cases h:(i:Int)∈S∧repB as_ S (i:Int)=true
  ·rw[if_pos h,QBM b c d h.1 h.2,if_pos]
   ·rfl
   ·have:(i:Int)∈cls as_ S (i:Int):=(QoU h.1).2 Qb6
    have:=List.length_pos_of_mem this
    omega
  ·rw[if_neg h,QyG b d h];rfl
 rw[e]
 unfold regV
 congr 1
 refine Xt.ext (Qjz fun i y h=>by split at h;exact (bD h).symm;cases h) (b.filter _) fun v=> ?_
 rw[QgP,bA]
 constructor
 ·rintro ⟨j,_,h⟩
  split at h
  ·rename_i g;cases h;exact g
  ·cases h
 ·intro h
  have:=c v h.1
  exact ⟨v.toNat,by omega,by rw[show ((v.toNat:Nat):Int)=v by omega,if_pos h]⟩
end
def ini {α:Type}(f:Nat→α)(z:α)(n k:Nat):List α:=(List.range k).map f++List.replicate (n - k) z
section
variable {α:Type}{f:Nat→α}{z x:α}{n k:Nat}
def Qzp:List.replicate n z=ini f z n 0:=by simp[ini]
def Qpn (h:k≤n):(ini f z n k).length=n:=by simp[ini];omega
def Qi4 (h:k<n)(d:x=f k):(ini f z n k).set k x=ini f z n (k+1):=by
 subst d
 unfold ini
 rw[List.set_append_right _ _ (by simp),aC,dh,Nat.sub_self,show n - k=(n - (k+1))+1 by omega,List.replicate_succ,List.set_cons_zero,bk,aT,aM]
 rfl
def Qpm (h:n≤k)(d:k≤n):ini f z n k=(List.range n).map f:=by
 obtain rfl:k=n:=by omega
 simp[ini]
end
def W8 (c:DSg)(l:Int×Bool):List Bool:=(List.range c.2.1.length).map fun k:Nat=>decide ((k:Int)∈xS c.2.2 l)
section
variable {c:DSg}{l:Int×Bool}{k i j n:Nat}{sig q x y:Int}{up b b1 b2:Bool}{code:BA}{a:DAr}{p:List Int}
def Quq:(W8 c l).length=c.2.1.length:=by simp[W8]
def QxK (h0:0≤q)(h:(W8 c l)[q.toNat]? =some b):b=decide (q∈xS c.2.2 l):=by
 unfold W8 at h
 rw[bl] at h
 obtain ⟨m,g,o⟩:=cq.1 h
 rw[← o]
 have d:=(ae.1 g)
 obtain ⟨d,e⟩:=d
 rw[List.getElem_range] at e
 rw[← e,show ((q.toNat:Nat):Int)=q by omega]
def Qx9 {s:BA}{i:Nat}{u:UInt8}(h:s[i]? =some u):s.extract i (i+1)=⟨#[u]⟩:=by
 have e:i<s.size:=by
  rcases Nat.lt_or_ge i s.size with g|g
  ·exact g
  ·rw[getElem?_neg s i (by omega)] at h;cases h
 have m:s[i]=u:=by rw[cJ s i e] at h;exact bD h
 have o:s.data[i]'(by simpa using e)=u:=m
 apply dQ
 rw[ByteArray.data_extract]
 apply Array.ext
 ·have:i<s.data.size:=e
  simp;omega
 ·intro j r d
  simp at d
  subst d
  simp[o]
def Qzo (h:Zq c (k:Int) sig=false):false=decide ((k:Int)∈xS c.2.2 (sig,up)):=(aj fun g=>by
 obtain ⟨a,d,e,o,m⟩:=Qor.1 g
 unfold Zq at h
 rw[bV] at h
 exact h a d (ay ⟨m,e⟩)).symm
def Qpa (h:SgOk c)(o:a∈c.2.2)(m:a.1=q)(s:a.2.1=sig)(t:0≤sig∧sig≤(c.1.length:Int) - 1)(g:c.2.1[q.toNat]? =some code):decide (bAt code sig=49)= !a.2.2.1:=by
 obtain ⟨r,_,_,e⟩:=h.arcs a o
 have d:ZP c a.1=code:=by unfold ZP;rw[m,g];rfl
 have u:=(h.codes code (ah g)).2
 rw[d] at e
 have:=e sig.toNat (by omega)
 unfold Xd at this
 rw[if_pos (by omega)] at this
 rw[show ((sig.toNat:Nat):Int)=sig by omega] at this
 exact this.1
def Qzn (s:SgOk c)(h:Zq c (k:Int) sig=true)(A:0≤sig∧sig≤(c.1.length:Int) - 1)(w:c.2.1[k]? =some code):decide (code.extract sig.toNat (sig+1).toNat=Z0 (!up))=decide ((k:Int)∈xS c.2.2 (sig,up)):=by
 unfold Zq at h
 obtain ⟨a,B,d⟩:=bG.1 h
 have d:=aa d
 have m:c.2.1[((k:Int)).toNat]? =some code:=w
 have r:=Qpa s B d.1 d.2 A m
 have G:=(s.codes code (ah w)).2
 obtain ⟨u,t⟩:∃u,code[sig.toNat]? =some u:=⟨_,cJ code _ (by omega)⟩
 have F:u=48∨u=49:=(s.codes code (ah w)).1 u (ah (Qcq t))
 rw[QU t] at r
 rw[show (sig+1).toNat=sig.toNat+1 by omega,Qx9 t]
 have o:(k:Int)∈xS c.2.2 (sig,up)↔a.2.2.1=up:=by
  rw[Qor]
  constructor
  ·rintro ⟨b,C,D,v,E⟩
   have e:=Qpa s C E D A m
   rw[QU t,r] at e
   have v:b.2.2.1=up:=v
   rw[← v]
   simpa using e
  ·intro g;exact ⟨a,B,d.2,g,d.1⟩
 rw[bu]
 rw[o]
 unfold Z0
 rcases F with rfl|rfl
 ·have:a.2.2.1=true:=by simpa using r.symm
  rw[this];cases up <;> decide
 ·have:a.2.2.1=false:=by simpa using r.symm
  rw[this];cases up <;> decide
def Qj2 (h:∀a∈c.2.2,InR c.2.1.length a)(g:q∈xS c.2.2 l):0≤q∧q<(c.2.1.length:Int):=by
 obtain ⟨a,d,_,_,e⟩:=Qor.1 g
 rw[← e];exact (h a d).1
def QB5 (e:∀a∈c.2.2,InR c.2.1.length a):(xS c.2.2 l).length≤c.2.1.length:=QjJ Qos fun q d=>Qj2 e d
def QnV {S:List Int}{as_:List DAr}(m:as_[i]? =some a)(g:true=decide (a.1∈S))(h:true=decide (a.2.2.2∈S))(d:((as_.take i).foldl (lpS S) p)[a.1.toNat]? =some x)(e:((as_.take i).foldl (lpS S) p)[a.2.2.2.toNat]? =some y):
 (((as_.take i).foldl (lpS S) p).set a.1.toNat (min x y)).set a.2.2.2.toNat (min x y)=(as_.take (i+1)).foldl (lpS S) p:=by
 rw[Qr m,bN,bn,db]
 generalize (as_.take i).foldl (lpS S) p=o at d e
 unfold lpS
 rw[if_pos ⟨aa g.symm,aa h.symm⟩,QeQ d,QeQ e]
def Qid {S:List Int}{as_:List DAr}(d:as_[i]? =some a)(h:¬(a.1∈S∧a.2.2.2∈S)):(as_.take i).foldl (lpS S) p=(as_.take (i+1)).foldl (lpS S) p:=by
 rw[Qr d,bN,bn,db,QnU h]
def fls (h:false=decide (q∈p)):¬q∈p:=ab h.symm
def QjI {S:List Int}(d:true=decide ((i:Int)∈S))(g:p[i]? =some x)(e:x=q):spF S p q i=some (i:Int):=by
 unfold spF
 rw[if_pos ⟨aa d.symm,by rw[QeQ (x:=(i:Int)) (by simpa using g)];exact e⟩]
def QjG {S:List Int}(d:false=decide ((i:Int)∈S)):spF S p q i=none:=if_neg fun g=>fls d g.1
def QjH {S:List Int}(e:p[i]? =some x)(d:¬x=q):spF S p q i=none:=if_neg fun g=>d (by rw[← g.2,QeQ (x:=(i:Int)) (by simpa using e)])
def rgN {β:Type}{f:Nat→Option β}{y:β}(h:f k=some y):rg f k++[y]=rg f (k+1):=by have:=WK (B:=[]) h;simpa using this
def Qp9 {S:List Int}{m:Nat}(e:n≤m)(d:m≤n)(h:0<((rg (spF S p (k:Int)) m).length:Int)):rg (lbG S p n) k++[rg (spF S p (k:Int)) m]=rg (lbG S p n) (k+1):=by
 obtain rfl:m=n:=by omega
 exact rgN (by unfold lbG;rw[if_pos h])
def QvN {S:List Int}{m:Nat}(e:n≤m)(d:m≤n)(h:¬0<((rg (spF S p (k:Int)) m).length:Int)):rg (lbG S p n) k=rg (lbG S p n) (k+1):=by
 obtain rfl:m=n:=by omega
 exact Yg (by unfold lbG;rw[if_neg h])
def QuQ {S:List Int}{as_:List DAr}:(as_.foldl (lpS S) p).length=p.length:=by
 induction as_ generalizing p with
 | nil=>rfl
 | cons a l d=>rw[bn,d];unfold lpS;split <;> simp
def QnI {S:List Int}{as_:List DAr}:∀{j:Nat},(Ze (lpR as_ S) j p).length=p.length
 | 0=>rfl
 | j+1=>by rw[Ze,lpR,QuQ,QnI]
def Qpt:(lpZ n).length=n:=by simp[lpZ]
end
def Qwh {c:DSg}{l:Int×Bool}(b:∀a∈c.2.2,InR c.2.1.length a):InN (xS c.2.2 l) c.2.1.length:=fun _ d=>Qj2 b d
def Qyo {c:DSg}{l:Int×Bool}{k:Nat}(b:∀a∈c.2.2,InR c.2.1.length a)(h:c.2.1.length≤k)(d:k≤c.2.1.length):rg (lbG (xS c.2.2 l) (Ze (lpR c.2.2 (xS c.2.2 l)) c.2.1.length (lpZ c.2.1.length)) c.2.1.length) k=regV c.2.2 (xS c.2.2 l):=by
 obtain rfl:k=c.2.1.length:=by omega
 exact QBN Qos (Qwh b) (QxN Qos (Qwh b) (QxV (Qwh b)))
def Qut {n k:Nat}(h:n≤k)(a:k≤n):ini (fun i:Nat=>(i:Int)) 0 n k=lpZ n:=Qpm h a
def Qus {c:DSg}{l:Int×Bool}{k:Nat}(h:c.2.1.length≤k)(a:k≤c.2.1.length):ini (fun i:Nat=>decide ((i:Int)∈xS c.2.2 l)) false c.2.1.length k=W8 c l:=Qpm h a
def Qgm {c:DSg}{l:Int×Bool}{m:Nat}{b:Bool}(h:(W8 c l)[m]? =some b):∀q:Int,q.toNat=m→0≤q→b=decide (q∈xS c.2.2 l):=fun q d a=>by subst d;exact QxK a h
def Qpo {α:Type}{f:α→α}{x:α}{n k:Nat}(h:n≤k)(a:k≤n):Ze f k x=Ze f n x:=by
 obtain rfl:k=n:=by omega
 rfl
def Qi0 (a:Int)(b:Int):FC prog 332 [(false,[dI a]),(false,[dI b])] [] 0 (QJ (lI (min a b))):=by
 refine Ql func332 rfl rfl ntmps332 fun h c g d i f e=>w9 ?_
 refine cd_ (fun _ _=> ?_) fun _ _=> ?_
 refine w6 ?_
 refine fqI c ?_
 omega
 refine w5 ?_
 refine fqI c ?_
 omega
def Qhl (c:Yw)(sig:Int)(d:Bool)(p:SgOk c)(t:0≤sig∧sig≤(c.1.length:Int) - 1):FC prog 331 [(true,[.dat Qj c.1,.dat Qd c.2.1,.dat Qq c.2.2]),(false,[dI sig]),(false,[dB d])] [] 0 (WB 4 .bool (W8 c (sig,d))):=by
 have D:=p.some_
 have I:=p.sigs.2.2
 refine Ql func331 rfl rfl ntmps331 fun G A E u H y x=>acI 1 fun _=>w_ ?_
 refine xbx 0 ?_
 refine w6 ?_
 refine lc (WW 1 (e:= .bool) (n:=c.2.1.length) (Qa rfl) (Qa rfl) QcH Qu4 rfl (by omega) (by omega) rfl (Fresh.of rfl) (nlr rfl))<|w10 ?_
 refine lp0 c.2.1.length (fun k=>⟨[(1,lI sig),(2,lB d),(3,lP 0 0),(6,lf (.val (.slice none 0 0))),(7,lR 2),(15,lf (.dat Qd c.2.1)),(16,lI (c.2.1.length:Int)),(17,lI (k:Int))],[bx 0 28 [.dat Qj c.1,.dat Qd c.2.1,.dat Qq c.2.2],ar 2 4 .bool (ini (fun i:Nat=>decide ((i:Int)∈xS c.2.2 (sig,d))) false c.2.1.length k)]⟩) ?_ fun k _=> ?_
 exact wp [(2,1)] ⟨rfl,(Qg (Qzp)),trivial⟩
 have C:=Qpn (f:=fun i:Nat=>decide ((i:Int)∈xS c.2.2 (sig,d))) (z:=false) (n:=c.2.1.length) (k:=k) (by omega)
 refine w4 ?_
 cases j:(decide ((k:Int)<(c.2.1.length:Int)))
 have m:=ab j
 refine w8 ?_
 refine fo_ A ?_
 exact Qus (by omega) (by omega)
 have m:=aa j
 refine w6 ?_
 obtain ⟨b,s⟩:=gx c.2.1 k
 have g:=s
 have B:=(p.codes b (ah s)).2
 refine w5 ?_
 cases o:(Zq c (k:Int) sig)
 obtain ⟨J,q⟩:=gx (ini (fun i:Nat=>decide ((i:Int)∈xS c.2.2 (sig,d))) false c.2.1.length k) k
 apply dV (i5 22 _ _ _ _ _ (io 27 (lB false)::i9 28 _ _ _ _ _ _ _ _ _ (i2 37 _ _ [io 39 (lf (.ept 2 1 k 0)),⟨none,lf (.val undef),[ar 2 4 .bool ((ini (fun i:Nat=>decide ((i:Int)∈xS c.2.2 (sig,d))) false c.2.1.length k).set k false)]⟩]))) [0,1,3,7,15,3,3,3,131,387,387,3,3971,3971,3971,3,3,0,0]
 refine z5 ?_
 refine zz (fun _ a=>ac (Qz (o) (dK (Zo c (k:Int) sig) XN)) rfl)<|z11 ?_
 exact zz (fun _ a=>ac (Qw (e:= .bool) (a.v rfl) (a.en 2 rfl) (a.v rfl) QcH U1 rfl (by omega) (by first|omega|(simp only[ax];omega))) rfl)<|zz (fun _ a=>ac (QO (e:= .bool) (z':=false) (a.v rfl) (a.n 2 rfl) q rfl (a.w rfl) rfl U1 rfl rfl) rfl)<|zN
 refine w4 ?_
 exact Qc<|l0_<|wp [] ⟨rfl,(Qg (Qi4 (by omega) (by first|exact Qzo ‹_› | exact Qzn p ‹_› t g))),trivial⟩
 obtain ⟨F,r⟩:=gx (ini (fun i:Nat=>decide ((i:Int)∈xS c.2.2 (sig,d))) false c.2.1.length k) k
 apply dV (i5 22 _ _ _ _ _ (io 27 (lB true)::i5 28 _ _ _ _ _ (io 33 (lf (dS (b.extract (sig).toNat (sig+1).toNat)))::i2 34 _ _ (io 36 (lf (dS (Z0 (!d))))::i2 37 _ _ [io 39 (lf (.ept 2 1 k 0)),⟨none,lf (.val undef),[ar 2 4 .bool ((ini (fun i:Nat=>decide ((i:Int)∈xS c.2.2 (sig,d))) false c.2.1.length k).set k (decide ((b.extract (sig).toNat (sig+1).toNat)=(Z0 (!d)))))]⟩])))) [0,1,3,7,15,3,3,3,131,387,387,3,3971,3971,3971,3,3,0,0]
 refine z5 ?_
 refine zz (fun _ a=>ac (Qz (o) (dK (Zo c (k:Int) sig) XN)) rfl)<|z5 ?_
 refine zz (fun _ a=>day rfl (a.k rfl) (show Does _ _ _ _ (St.put _ 33 (lf (dS (b.extract (sig).toNat (sig+1).toNat)))) from QT (l:=(some sig)) (h:=(some (sig+1))) (a.v rfl) (by exact (a.v rfl)) (by exact (a.v rfl)) Yd rfl (by first|omega|(simp only[aq,ap];omega)) (by first|omega|(simp only[aq,ap];omega)) (by first|omega|(simp only[aq,ap];omega))) rfl)<|z2 ?_
 refine zz (fun _ a=>day rfl (a.k rfl) (dK (Yu (!d)) XE) rfl)<|z2 ?_
 exact zz (fun _ a=>ac (Qw (e:= .bool) (a.v rfl) (a.en 2 rfl) (a.v rfl) QcH U1 rfl (by omega) (by first|omega|(simp only[ax];omega))) rfl)<|zz (fun _ a=>ac (QO (e:= .bool) (z':=decide ((b.extract (sig).toNat (sig+1).toNat)=(Z0 (!d)))) (a.v rfl) (a.n 2 rfl) r rfl (a.w rfl) rfl U1 rfl rfl) rfl)<|zN
 refine w4 ?_
 exact Qc<|l0_<|wp [] ⟨rfl,(Qg (Qi4 (by omega) (by first|exact Qzo ‹_› | exact Qzn p ‹_› t g))),trivial⟩
theorem YB (c:Yw)(sig:Int)(b:Bool)(hs:SgOk c)(hg:0≤sig∧sig≤(c.1.length:Int) - 1):FC prog 290 [(true,[.dat Qj c.1,.dat Qd c.2.1,.dat Qq c.2.2]),(false,[dI sig]),(false,[dB b])] [] 0 (WB 62 Qv (regV c.2.2 (xS c.2.2 (sig,b)))):=by
 have hr:∀a∈c.2.2,InR c.2.1.length a:=fun a ha=>We (hs.arcs a ha)
 have b7:=hs.some_
 have b3:=hs.few
 have T:=Quq (c:=c) (l:=(sig,b))
 have c0:(List.replicate (W8 c (sig,b)).length (Ty.zero .int)).length=c.2.1.length:=by rw[aQ];exact T
 refine Ql func290 rfl rfl ntmps290 fun O_ hO c1 a4 X_ a6 a5=>w_ ?_
 refine xbx 0 ?_
 refine w6 ?_
 refine lc (dK (Qhl c sig b hs hg).frozen Qnr)<|w5 ?_
 refine lc (WW 1 (e:= .int) (n:=(W8 c (sig,b)).length) (Qa rfl) (Qa rfl) ZX Qpz rfl (by omega) (by omega) rfl (Fresh.of rfl) (nlr rfl))<|w9 ?_
 refine lp0 c.2.1.length (fun k=>⟨[(3,lP 0 0),(6,lf (.val (.slice none 0 0))),(7,lf (.dat (.sl 4 .bool) (W8 c (sig,b)))),(8,lR 2),(25,lI ((List.replicate ((W8 c (sig,b)).length) (Ty.zero .int)).length:Int)),(26,lI (k:Int))],[bx 0 28 [.dat Qj c.1,.dat Qd c.2.1,.dat Qq c.2.2],(2,some (.arr 3 .int (ini (fun i:Nat=>(i:Int)) 0 c.2.1.length k)))]⟩) ?_ fun k _=> ?_
 exact wp [(2,1)] ⟨rfl,(Qg ((by rw[T];exact Qzp))),trivial⟩
 have b6:=Qpn (f:=fun i:Nat=>(i:Int)) (z:=0) (n:=c.2.1.length) (k:=k) (by omega)
 refine w4 ?_
 cases P:(decide ((k:Int)<((List.replicate ((W8 c (sig,b)).length) (Ty.zero .int)).length:Int)))
 have Q:=ab P
 refine w4 ?_
 refine Q5 ?_
 rw[Qut (by omega) (by omega)]
 refine w6 ?_
 refine lp0 c.2.1.length (fun j=>⟨[(3,lP 0 0),(6,lf (.val (.slice none 0 0))),(7,lf (.dat (.sl 4 .bool) (W8 c (sig,b)))),(8,lR 3),(35,lI ((W8 c (sig,b)).length:Int)),(36,lI (j:Int))],[bx 0 28 [.dat Qj c.1,.dat Qd c.2.1,.dat Qq c.2.2],(3,some (.arr 3 .int (Ze (lpR c.2.2 (xS c.2.2 (sig,b))) j (lpZ c.2.1.length))))]⟩) ?_ fun j _=> ?_
 exact wp [(3,2)] ⟨rfl,(Qg (rfl)),trivial⟩
 refine w4 ?_
 cases R:(decide ((j:Int)<((W8 c (sig,b)).length:Int)))
 have S:=ab R
 refine w3 ?_
 refine Q5 ?_
 rw[Qpo (n:=c.2.1.length) (by omega) (by omega)]
 have b9:(Ze (lpR c.2.2 (xS c.2.2 (sig,b))) c.2.1.length (lpZ c.2.1.length)).length=c.2.1.length:=by rw[QnI,Qpt]
 generalize a0:Ze (lpR c.2.2 (xS c.2.2 (sig,b))) c.2.1.length (lpZ c.2.1.length)=pq at*
 refine w10 ?_
 refine AC.wk (Wk.nilS 4 13 62 Qv rfl (Fresh.of rfl) (nlr rfl))<|lp0 c.2.1.length (fun k=>⟨[(6,lf (.val (.slice none 0 0))),(7,lf (.dat (.sl 4 .bool) (W8 c (sig,b)))),(8,lR 3),(13,lR 5),(81,lI ((W8 c (sig,b)).length:Int)),(82,lI (k:Int))],[(3,some (.arr 3 .int pq)),(5,some (.arr 62 Qv (rg (lbG (xS c.2.2 (sig,b)) (pq) c.2.1.length) k)))]⟩) ?_ fun k _=> ?_
 exact wp [(5,4)] ⟨rfl,(Qg (rfl)),trivial⟩
 have b5:=Jv (f:=lbG (xS c.2.2 (sig,b)) (pq) c.2.1.length) (m:=k)
 refine w4 ?_
 cases t:(decide ((k:Int)<((W8 c (sig,b)).length:Int)))
 have F:=ab t
 refine w8 ?_
 refine fo_ hO ?_
 (subst a0;exact Qyo hr (by omega) (by omega))
 have F:=aa t
 refine w16 ?_
 refine w2 ?_
 refine AC.wk (Wk.nilS 6 15 3 .int rfl (Fresh.of rfl) (nlr rfl))<|lp0 c.2.1.length (fun i=>⟨[(6,lf (.val (.slice none 0 0))),(7,lf (.dat (.sl 4 .bool) (W8 c (sig,b)))),(8,lR 3),(13,lR 5),(14,lI (k:Int)),(15,lR 7),(81,lI ((W8 c (sig,b)).length:Int)),(82,lI (k:Int)),(86,lI ((W8 c (sig,b)).length:Int)),(87,lI (i:Int))],[(3,some (.arr 3 .int pq)),(5,some (.arr 62 Qv (rg (lbG (xS c.2.2 (sig,b)) (pq) c.2.1.length) k))),(7,some (.arr 3 .int (rg (spF (xS c.2.2 (sig,b)) (pq) (k:Int)) i)))]⟩) ?_ fun i _=> ?_
 exact wp [(7,6)] ⟨rfl,rfl,(Qg (rfl)),trivial⟩
 have b4:=Jv (f:=spF (xS c.2.2 (sig,b)) (pq) (k:Int)) (m:=i)
 refine w4 ?_
 cases u:(decide ((i:Int)<((W8 c (sig,b)).length:Int)))
 have G:=ab u
 refine w8 ?_
 cases w:(decide (0<((rg (spF (xS c.2.2 (sig,b)) (pq) (k:Int)) i).length:Int)))
 have H:=ab w
 refine w6 ?_
 exact Qc<|l0_<|wp [] ⟨rfl,(Qg (by first|exact Qp9 (m:=i) (by omega) (by omega) ‹_› | exact QvN (m:=i) (by omega) (by omega) ‹_›)),trivial⟩
 have H:=aa w
 refine w4 ?_
 refine lc (dBs 8 (e:=Qv) H6 (hab:=by exact ⟨_,_,_,_,rfl,(.inl ⟨_,rfl,rfl,rfl⟩),⟨rfl,rfl⟩,rfl⟩))<|lc (dA 9 Qc4)<|w_ ?_
 refine Qc<|w4 ?_
 exact Qc<|l0_<|wp [(5,9)] ⟨rfl,(Qg (by first|exact Qp9 (m:=i) (by omega) (by omega) ‹_› | exact QvN (m:=i) (by omega) (by omega) ‹_›)),trivial⟩
 have G:=aa u
 refine w11 ?_
 obtain ⟨E,U⟩:=gx (W8 c (sig,b)) i
 have q:=Qgm U
 refine w3 ?_
 cases a1:(E)
 refine w14 ?_
 exact Qc<|l0_<|wp [] ⟨rfl,rfl,(Qg (by first|exact rgN (QjI ((by assumption:E=true).symm.trans (q (i:Int) rfl (by omega))) r ‹_›)|exact Yg (QjG ((by assumption:E=false).symm.trans (q (i:Int) rfl (by omega))))|exact Yg (QjH r ‹_›))),trivial⟩
 refine w3 ?_
 obtain ⟨pi,V⟩:=gx pq i
 have r:=V
 refine w5 ?_
 cases x:(decide (pi=(k:Int)))
 have I:=ab x
 refine w6 ?_
 exact Qc<|l0_<|wp [] ⟨rfl,rfl,(Qg (by first|exact rgN (QjI ((by assumption:E=true).symm.trans (q (i:Int) rfl (by omega))) r ‹_›)|exact Yg (QjG ((by assumption:E=false).symm.trans (q (i:Int) rfl (by omega))))|exact Yg (QjH r ‹_›))),trivial⟩
 have I:=aa x
 refine w4 ?_
 refine lc (dBs 10 (e:= .int) Ye)<|lc (dA 11 Xg)<|w_ ?_
 refine Qc<|w4 ?_
 exact Qc<|l0_<|wp [(7,11)] ⟨rfl,rfl,(Qg (by first|exact rgN (QjI ((by assumption:E=true).symm.trans (q (i:Int) rfl (by omega))) r ‹_›)|exact Yg (QjG ((by assumption:E=false).symm.trans (q (i:Int) rfl (by omega))))|exact Yg (QjH r ‹_›))),trivial⟩
 have S:=aa R
 refine w11 ?_
 refine lp0 c.2.2.length (fun i=>⟨[(3,lP 0 0),(6,lf (.val (.slice none 0 0))),(7,lf (.dat (.sl 4 .bool) (W8 c (sig,b)))),(8,lR 12),(35,lI ((W8 c (sig,b)).length:Int)),(36,lI (j:Int)),(39,lf (.dat Qq c.2.2)),(40,lI (c.2.2.length:Int)),(41,lI (i:Int))],[bx 0 28 [.dat Qj c.1,.dat Qd c.2.1,.dat Qq c.2.2],(12,some (.arr 3 .int ((c.2.2.take i).foldl (lpS (xS c.2.2 (sig,b))) (Ze (lpR c.2.2 (xS c.2.2 (sig,b))) j (lpZ c.2.1.length)))))]⟩) ?_ fun i _=> ?_
 exact wp [(12,3)] ⟨rfl,(Qg (rfl)),trivial⟩
 have b8:((c.2.2.take i).foldl (lpS (xS c.2.2 (sig,b))) (Ze (lpR c.2.2 (xS c.2.2 (sig,b))) j (lpZ c.2.1.length))).length=c.2.1.length:=by rw[QuQ,QnI,Qpt]
 refine w4 ?_
 cases y:(decide ((i:Int)<(c.2.2.length:Int)))
 have J:=ab y
 refine w6 ?_
 exact Qc<|l0_<|wp [(3,12)] ⟨rfl,(Qg ((by rw[Zy (by omega)];rfl))),trivial⟩
 have J:=aa y
 refine w5 ?_
 obtain ⟨ar,A⟩:=gx c.2.2 i
 have O:=hr _ (ah A)
 obtain ⟨⟨a7,a8⟩,a9,b0⟩:=O
 have d:=A
 refine w2 ?_
 refine lc (xal 13 Yi Yp)<|w6 ?_
 refine alI 47 fun _=> ?_
 obtain ⟨C,W⟩:=gx (W8 c (sig,b)) ((ar.1).toNat)
 have o:=Qgm W
 refine w3 ?_
 cases a2:(C)
 refine w13 ?_
 exact Qc<|l0_<|wp [] ⟨rfl,(Qg (by first|exact QnV d ((by assumption:C=true).symm.trans (o _ rfl (by omega))) ((by assumption:D=true).symm.trans (p _ rfl (by omega))) K L|exact Qid d (fun g=>fls ((by assumption:C=false).symm.trans (o _ rfl (by omega))) g.1)|exact Qid d (fun g=>fls ((by assumption:D=false).symm.trans (p _ rfl (by omega))) g.2))),trivial⟩
 refine w3 ?_
 obtain ⟨D,X⟩:=gx (W8 c (sig,b)) ((ar.2.2.2).toNat)
 have p:=Qgm X
 refine w4 ?_
 cases a3:(D)
 refine w6 ?_
 exact Qc<|l0_<|wp [] ⟨rfl,(Qg (by first|exact QnV d ((by assumption:C=true).symm.trans (o _ rfl (by omega))) ((by assumption:D=true).symm.trans (p _ rfl (by omega))) K L|exact Qid d (fun g=>fls ((by assumption:C=false).symm.trans (o _ rfl (by omega))) g.1)|exact Qid d (fun g=>fls ((by assumption:D=false).symm.trans (p _ rfl (by omega))) g.2))),trivial⟩
 refine w_ ?_
 obtain ⟨M,s⟩:=gx ((c.2.2.take i).foldl (lpS (xS c.2.2 (sig,b))) (Ze (lpR c.2.2 (xS c.2.2 (sig,b))) j (lpZ c.2.1.length))) ((ar.1).toNat)
 have K:=s
 obtain ⟨N,B⟩:=gx ((c.2.2.take i).foldl (lpS (xS c.2.2 (sig,b))) (Ze (lpR c.2.2 (xS c.2.2 (sig,b))) j (lpZ c.2.1.length))) ((ar.2.2.2).toNat)
 have L:=B
 apply dW (i3 57 _ _ _ (io 60 (lf (.ept 12 1 ((ar.1).toNat) 0))::io 61 (lI M)::i3 62 _ _ _ [io 65 (lf (.ept 12 1 ((ar.2.2.2).toNat) 0)),io 66 (lI N),io 67 (lI (min M N)),io 12 _])) [0,1,1,0,0,31,63,63,31,31,0,0]
 refine z3 ?_
 refine zz (fun _ h=>ac (Qw (e:= .int) (h.v rfl) (h.en 12 rfl) (h.v rfl) ZX Zv rfl (by omega) (by first|omega|(simp only[ax];omega))) rfl)<|zz (fun _ h=>ac (ZE (e:= .int) (h.v rfl) (h.n 12 rfl) s rfl Zv rfl rfl) rfl)<|z3 ?_
 exact zz (fun _ h=>ac (Qw (e:= .int) (h.v rfl) (h.en 12 rfl) (h.v rfl) ZX Zv rfl (by omega) (by first|omega|(simp only[ax];omega))) rfl)<|zz (fun _ h=>ac (ZE (e:= .int) (h.v rfl) (h.n 12 rfl) B rfl Zv rfl rfl) rfl)<|zz (fun _ h=>ac (dK (Qi0 M N) Qns) rfl)<|y1
 refine w6 ?_
 refine lc (QO (e:= .int) (z':=min M N) (Qa rfl) rfl s rfl (Qm rfl) rfl Zv rfl rfl)<|w7 ?_
 obtain ⟨c2,Y⟩:∃z,(((c.2.2.take i).foldl (lpS (xS c.2.2 (sig,b))) (Ze (lpR c.2.2 (xS c.2.2 (sig,b))) j (lpZ c.2.1.length))).set ((ar.1).toNat) (min M N))[(ar.2.2.2).toNat]? =some z:=⟨_,ak (by first|omega|(simp only[ax];omega))⟩
 refine lc (QO (e:= .int) (z':=min M N) (Qa rfl) rfl Y rfl (Qm rfl) rfl Zv rfl rfl)<|Qc<|w4 ?_
 exact Qc<|l0_<|wp [] ⟨rfl,(Qg (by first|exact QnV d ((by assumption:C=true).symm.trans (o _ rfl (by omega))) ((by assumption:D=true).symm.trans (p _ rfl (by omega))) K L|exact Qid d (fun g=>fls ((by assumption:C=false).symm.trans (o _ rfl (by omega))) g.1)|exact Qid d (fun g=>fls ((by assumption:D=false).symm.trans (p _ rfl (by omega))) g.2))),trivial⟩
 have Q:=aa P
 refine w13 ?_
 obtain ⟨c3,Z⟩:=gx (ini (fun i:Nat=>(i:Int)) 0 c.2.1.length k) k
 refine lc (QO (e:= .int) (z':=(k:Int)) (Qa rfl) rfl Z rfl (Qm rfl) rfl Zv rfl rfl)<|Qc<|w4 ?_
 exact Qc<|l0_<|wp [] ⟨rfl,(Qg (Qi4 (by omega) rfl)),trivial⟩
def adQ (c:DSg)(s:Int)(out:List Int)(k:Int):List Int:=if Zq c k s=false∧¬k∈out then out++[k] else out
def qJ (c:DSg)(l:Int×Bool)(R out:List Int)(a:DAr):List Int:=if a.2.1=l.1∧a.2.2.1=l.2∧a.1∈R then adQ c l.1 out a.2.2.2 else out
def qU (c:DSg)(s u:Int)(out:List Int)(a:DAr):List Int:=if a.1=u then adQ c s out a.2.2.2 else out
def qE (c:DSg)(s:Int):List DAr:=(c.2.2.filter fun a=> !Zq c a.2.2.2 s).map fun a=>(a.1,-1,false,a.2.2.2)
def qQ (c:DSg)(s:Int)(R:List Int)(v:Int):Prop:=∃a∈c.2.2,a.2.1=s∧a.1∈R∧Zq c a.2.2.2 s=false∧a.2.2.2=v
abbrev QC (c:DSg)(s:Int)(R:List Int)(v:Int):Prop:=Ch (qE c s) (-1) (qQ c s R) v
noncomputable def qV (c:DSg) (s:Int) (R:List Int):List Int:=((List.range c.2.1.length).map fun k:Nat=>(k:Int)).filter fun v=> @decide (QC c s R v) (Classical.propDecidable _)
def chi (n:Nat)(S:List Int):List Bool:=(List.range n).map fun k:Nat=>decide ((k:Int)∈S)
def qZ (c:DSg)(s:Int)(R S:List Int)(a:DAr):List Int:=if a.1∈R∧a.2.1=s∧Zq c a.2.2.2 s=false then Zc ltI a.2.2.2 S else S
def qT (c:DSg)(s:Int)(S:List Int)(a:DAr):List Int:=if a.1∈S∧Zq c a.2.2.2 s=false then Zc ltI a.2.2.2 S else S
def qR (c:DSg)(s:Int)(S:List Int):List Int:=c.2.2.foldl (qT c s) S
def chF (S:List Int)(k:Nat):Option Int:=if (k:Int)∈S then some (k:Int) else none
section
variable {c:DSg}{as_:List DAr}{a b:DAr}{l:Int×Bool}{R S out:List Int}{s u v q x:Int}{k i j n m:Nat}{B:Bool}
theorem QBv:b∈qE c s↔b.2.1= -1∧b.2.2.1=false∧∃a∈c.2.2,Zq c a.2.2.2 s=false∧b.1=a.1∧b.2.2.2=a.2.2.2:=by
 unfold qE
 rw[aW]
 constructor
 ·grind
 ·obtain ⟨d,e,f,g⟩:=b
  rintro ⟨h,o,a,p,r,t,w⟩
  grind
def Qob (f:∀a∈c.2.2,InR c.2.1.length a)(h:b∈qE c s):0≤b.2.2.2∧b.2.2.2<(c.2.1.length:Int):=by
 obtain ⟨_,_,a,d,_,_,e⟩:=QBv.1 h
 rw[e];exact (f a d).2
def QzU (e:∀a∈c.2.2,InR c.2.1.length a)(h:QC c s R v):0≤v∧v<(c.2.1.length:Int):=by
 cases h with
 | base d=>obtain ⟨a,d,_,_,_,rfl⟩:=d;exact (e a d).2
 | step _ f _=>exact Qob e f
def QBx (d:∀a∈c.2.2,InR c.2.1.length a):v∈qV c s R↔QC c s R v:=by
 unfold qV
 rw[bA,@bI _ (Classical.propDecidable _)]
 refine ⟨fun h=>h.2,fun h=>⟨?_,h⟩⟩
 have:=QzU d h
 exact aW.2 ⟨v.toNat,bC.2 (by omega),by omega⟩
theorem Qyr:Srt ((List.range n).map fun k:Nat=>(k:Int)):=by
 grind [List.pairwise_lt_range.imp,ltI]
def QBy:Srt (qV c s R):=Qyr.filter _
def QEf (e:∀a∈c.2.2,InR c.2.1.length a)(d:Srt S)(h:∀v,v∈S↔QC c s R v):S=qV c s R:=Xt.ext d QBy fun v=>by rw[h,QBx e]
def Qb4:(chi n S).length=n:=by simp[chi]
theorem QoS (h:(chi n S)[m]? =some B):∀q:Int,q.toNat=m→0≤q→B=decide (q∈S):=fun q e d=>by
 grind [chi,Option.map_eq_some_iff,List.getElem?_eq_some_iff]
theorem QoT (h0:0≤q)(d:q<(n:Int)):(chi n S).set q.toNat true=chi n (Zc ltI q S):=by
 unfold chi
 apply List.ext_getElem
 ·simp
 ·grind [List.length_set,List.length_map,List.length_range,Z2]
def Qw0:List.replicate n false=chi n []:=by
 unfold chi
 apply List.ext_getElem
 ·simp
 ·intro i d e;simp
theorem Qjx (d:∀a∈c.2.2,InR c.2.1.length a)(e:c.2.2[k]? =some a)(f:a.1∈R)(g:a.2.1=s)(h:Zq c a.2.2.2 s=false):(chi c.2.1.length ((c.2.2.take k).foldl (qZ c s R) S)).set a.2.2.2.toNat true=chi c.2.1.length ((c.2.2.take (k+1)).foldl (qZ c s R) S):=by
 have o:=(d a (ah e)).2
 simp_all [QoT,Qr,bN,bn,db,qZ]
def JP (d:c.2.2[k]? =some a)(h:¬(a.1∈R∧a.2.1=s∧Zq c a.2.2.2 s=false)):chi n ((c.2.2.take k).foldl (qZ c s R) S)=chi n ((c.2.2.take (k+1)).foldl (qZ c s R) S):=by
 rw[Qr d,bN,bn,db]
 conv=>rhs;unfold qZ
 rw[if_neg h]
 rfl
theorem Qoc (d:∀a∈c.2.2,InR c.2.1.length a)(e:c.2.2[k]? =some a)(f:true=decide (a.1∈(c.2.2.take k).foldl (qT c s) S))(g:Zq c a.2.2.2 s=false):(chi c.2.1.length ((c.2.2.take k).foldl (qT c s) S)).set a.2.2.2.toNat true=chi c.2.1.length ((c.2.2.take (k+1)).foldl (qT c s) S):=by
 have h:=(d a (ah e)).2
 simp_all [QoT,Qr,bN,bn,db,qT]
theorem Qil (d:c.2.2[k]? =some a)(h:¬(a.1∈(c.2.2.take k).foldl (qT c s) S∧Zq c a.2.2.2 s=false)):chi n ((c.2.2.take k).foldl (qT c s) S)=chi n ((c.2.2.take (k+1)).foldl (qT c s) S):=by
 rw[Qr d,bN,bn,db]
 grind [qT]
theorem QEe:qR c s S=stP (-1) (qE c s) S:=by
 unfold qR stP qE
 have d:∀(as_:List DAr) (S:List Int),as_.foldl (qT c s) S=((as_.filter fun a=> !Zq c a.2.2.2 s).map fun a=>((a.1,-1,false,a.2.2.2):DAr)).foldl (stS (-1)) S:=fun as_=>by
  induction as_ with
  | nil=>intro _;rfl
  | cons a as_ e=>
   grind [Zq,Bool.not_true,Bool.false_eq_true,qT,Bool.not_false,stS,inv]
 exact d _ _
def Quv:∀{j:Nat},Ze (qR c s) j S=stN (-1) (qE c s) j S
 | 0=>rfl
 | j+1=>by rw[Ze,Quv,QEe];rfl
def QBA (h:Srt S):Srt (as_.foldl (qZ c s R) S):=by
 induction as_ generalizing S with
 | nil=>exact h
 | cons a as_ d=>rw[bn];refine d ?_;unfold qZ;split;exact KQ Xt h;exact h
theorem QBz:v∈as_.foldl (qZ c s R) S↔v∈S∨∃a∈as_,a.2.1=s∧a.1∈R∧Zq c a.2.2.2 s=false∧a.2.2.2=v:=by
 induction as_ generalizing S with
 | nil=>simp
 | cons a as_ d=>
  grind [qZ,R,Zq,Z2]
def QBE (d:Srt S)(e:∀u∈S,0≤u∧u<(n:Int)):rg (chF S) n=S:=by
 refine Xt.ext (Qjz fun i y h=>by unfold chF at h;split at h;exact (bD h).symm;cases h) d fun v=> ?_
 rw[QgP]
 unfold chF
 constructor
 ·rintro ⟨j,_,h⟩
  split at h
  ·rename_i g;cases h;exact g
  ·cases h
 ·intro h
  have:=e v h
  exact ⟨v.toNat,by omega,by rw[show ((v.toNat:Nat):Int)=v by omega,if_pos h]⟩
def QBw (e:∀a∈c.2.2,InR c.2.1.length a)(t:c.2.1.length≤k)(p:k≤c.2.1.length):rg (chF (Ze (qR c s) c.2.1.length (c.2.2.foldl (qZ c s R) []))) k=qV c s R:=by
 obtain rfl:k=c.2.1.length:=by omega
 have f:Srt (c.2.2.foldl (qZ c s R) []):=QBA co
 have h:∀v,v∈c.2.2.foldl (qZ c s R) []↔qQ c s R v:=fun v=>by rw[QBz];simp[qQ]
 have d:∀u∈c.2.2.foldl (qZ c s R) [],0≤u∧u<(c.2.1.length:Int):=fun u r=>by
  obtain ⟨a,o,_,_,_,rfl⟩:=(h u).1 r
  exact (e a o).2
 rw[Quv,QBE (Jy f) (Qqc (fun a g=>Qob e g) d)]
 refine QEf e (Jy f) fun v=> ?_
 rw[QgW f (fun a g=>Qob e g) d]
 exact Ch.congr h
def QoR (h:true=decide ((k:Int)∈S)):rg (chF S) k++[(k:Int)]=rg (chF S) (k+1):=rgN (by unfold chF;rw[if_pos (aa h.symm)])
def Qtw (h:false=decide ((k:Int)∈S)):rg (chF S) k=rg (chF S) (k+1):=Yg (by unfold chF;rw[if_neg (ab h.symm)])
def Qjy (d:∀a∈c.2.2,InR c.2.1.length a):(regV c.2.2 (xS c.2.2 l)).length≤c.2.1.length:=by
 unfold regV
 rw[aC]
 exact bi (bR ..) (QB5 d)
end
def QgC {b:Bool}(h:b=true)(g:b=false):False:=by rw[h] at g;cases g
def KE (c:Yw)(sig:Int)(b:List Int)(P:SgOk c):FC prog 292 [(true,[.dat Qj c.1,.dat Qd c.2.1,.dat Qq c.2.2]),(false,[dI sig]),(false,[.dat Qv b])] [] 0 (WB 3 .int (qV c sig b)):=by
 have q:∀a∈c.2.2,InR c.2.1.length a:=fun a ha=>We (P.arcs a ha)
 have a5:=P.some_
 have a3:=P.few
 refine Ql func292 rfl rfl ntmps292 fun O_ hO a6 Y X_ a0 Z=>w_ ?_
 refine xbx 0 ?_
 refine w6 ?_
 refine lc (WW 1 (e:= .bool) (n:=c.2.1.length) (Qa rfl) (Qa rfl) QcH Qu4 rfl (by omega) (by omega) rfl (Fresh.of rfl) (nlr rfl))<|w10 ?_
 refine lp0 c.2.2.length (fun k=>⟨[(1,lI sig),(2,lf (.dat Qv b)),(3,lP 0 0),(6,lf (.val (.slice none 0 0))),(7,lR 2),(20,lf (.dat Qq c.2.2)),(21,lI (c.2.2.length:Int)),(22,lI (k:Int))],[bx 0 28 [.dat Qj c.1,.dat Qd c.2.1,.dat Qq c.2.2],(2,some (.arr 4 .bool (chi c.2.1.length ((c.2.2.take k).foldl (qZ c sig b) []))))]⟩) ?_ fun k _=> ?_
 exact wp [(2,1)] ⟨rfl,(Qg (Qw0)),trivial⟩
 have a1:=Qb4 (n:=c.2.1.length) (S:=(c.2.2.take k).foldl (qZ c sig b) [])
 refine w4 ?_
 cases B:(decide ((k:Int)<(c.2.2.length:Int)))
 have C:=ab B
 refine w4 ?_
 refine Q5 ?_
 have a2:=Qb4 (n:=c.2.1.length) (S:=c.2.2.foldl (qZ c sig b) [])
 rw[Zy (by omega)]
 refine w6 ?_
 refine lp0 c.2.1.length (fun j=>⟨[(1,lI sig),(3,lP 0 0),(6,lf (.val (.slice none 0 0))),(7,lR 3),(50,lI ((chi c.2.1.length ((c.2.2).foldl (qZ c sig b) [])).length:Int)),(51,lI (j:Int))],[bx 0 28 [.dat Qj c.1,.dat Qd c.2.1,.dat Qq c.2.2],(3,some (.arr 4 .bool (chi c.2.1.length (Ze (qR c sig) j (c.2.2.foldl (qZ c sig b) [])))))]⟩) ?_ fun j _=> ?_
 exact wp [(3,2)] ⟨rfl,(Qg (rfl)),trivial⟩
 have V:=Qb4 (n:=c.2.1.length) (S:=Ze (qR c sig) j (c.2.2.foldl (qZ c sig b) []))
 refine w4 ?_
 cases D:(decide ((j:Int)<((chi c.2.1.length ((c.2.2).foldl (qZ c sig b) [])).length:Int)))
 have E:=ab D
 refine w3 ?_
 refine Q5 ?_
 rw[Qpo (n:=c.2.1.length) (by omega) (by omega)]
 refine w10 ?_
 refine AC.wk (Wk.nilS 4 12 3 .int rfl (Fresh.of rfl) (nlr rfl))<|lp0 c.2.1.length (fun k=>⟨[(6,lf (.val (.slice none 0 0))),(12,lR 5),(79,lR 3),(80,lI ((chi c.2.1.length (Ze (qR c sig) c.2.1.length (c.2.2.foldl (qZ c sig b) []))).length:Int)),(81,lI (k:Int))],[(3,some (.arr 4 .bool (chi c.2.1.length (Ze (qR c sig) c.2.1.length (c.2.2.foldl (qZ c sig b) []))))),(5,some (.arr 3 .int (rg (chF (Ze (qR c sig) c.2.1.length (c.2.2.foldl (qZ c sig b) []))) k)))]⟩) ?_ fun k _=> ?_
 exact wp [(5,4)] ⟨rfl,(Qg (rfl)),trivial⟩
 have a4:=Jv (f:=chF (Ze (qR c sig) c.2.1.length (c.2.2.foldl (qZ c sig b) []))) (m:=k)
 have X:=Qb4 (n:=c.2.1.length) (S:=Ze (qR c sig) c.2.1.length (c.2.2.foldl (qZ c sig b) []))
 refine w4 ?_
 cases F:(decide ((k:Int)<((chi c.2.1.length (Ze (qR c sig) c.2.1.length (c.2.2.foldl (qZ c sig b) []))).length:Int)))
 have G:=ab F
 refine w8 ?_
 refine fo_ hO ?_
 exact QBw q (by omega) (by omega)
 have G:=aa F
 refine w7 ?_
 obtain ⟨A,H⟩:=gx (chi c.2.1.length (Ze (qR c sig) c.2.1.length (c.2.2.foldl (qZ c sig b) []))) k
 have r:=QoS H
 refine w7 ?_
 cases Q:(A)
 refine w6 ?_
 exact Qc<|l0_<|wp [] ⟨rfl,(Qg (by first|exact QoR ((by assumption:A=true).symm.trans (r (k:Int) rfl (by omega)))|exact Qtw ((by assumption:A=false).symm.trans (r (k:Int) rfl (by omega))))),trivial⟩
 refine w4 ?_
 refine lc (dBs 6 (e:= .int) Ye)<|lc (dA 7 Xg)<|w_ ?_
 refine Qc<|w4 ?_
 exact Qc<|l0_<|wp [(5,7)] ⟨rfl,(Qg (by first|exact QoR ((by assumption:A=true).symm.trans (r (k:Int) rfl (by omega)))|exact Qtw ((by assumption:A=false).symm.trans (r (k:Int) rfl (by omega))))),trivial⟩
 have E:=aa D
 refine w11 ?_
 refine lp0 c.2.2.length (fun i=>⟨[(1,lI sig),(3,lP 0 0),(6,lf (.val (.slice none 0 0))),(7,lR 8),(50,lI ((chi c.2.1.length ((c.2.2).foldl (qZ c sig b) [])).length:Int)),(51,lI (j:Int)),(54,lf (.dat Qq c.2.2)),(55,lI (c.2.2.length:Int)),(56,lI (i:Int))],[bx 0 28 [.dat Qj c.1,.dat Qd c.2.1,.dat Qq c.2.2],(8,some (.arr 4 .bool (chi c.2.1.length ((c.2.2.take i).foldl (qT c sig) (Ze (qR c sig) j (c.2.2.foldl (qZ c sig b) []))))))]⟩) ?_ fun i _=> ?_
 exact wp [(8,3)] ⟨rfl,(Qg (rfl)),trivial⟩
 have W:=Qb4 (n:=c.2.1.length) (S:=(c.2.2.take i).foldl (qT c sig) (Ze (qR c sig) j (c.2.2.foldl (qZ c sig b) [])))
 refine w4 ?_
 cases s:(decide ((i:Int)<(c.2.2.length:Int)))
 have x:=ab s
 refine w6 ?_
 exact Qc<|l0_<|wp [(3,8)] ⟨rfl,(Qg ((by rw[Zy (by omega)];rfl))),trivial⟩
 have x:=aa s
 refine w5 ?_
 obtain ⟨ar,v⟩:=gx c.2.2 i
 have h:=v
 have p:=q _ (ah v)
 obtain ⟨⟨L,M⟩,N,O⟩:=p
 refine w2 ?_
 refine lc (xal 9 Yi Yp)<|w6 ?_
 refine alI 62 fun _=> ?_
 refine w_ ?_
 obtain ⟨w,I⟩:=gx (chi c.2.1.length ((c.2.2.take i).foldl (qT c sig) (Ze (qR c sig) j (c.2.2.foldl (qZ c sig b) [])))) ((ar.1).toNat)
 have l:=QoS I
 refine w2 ?_
 cases R:(w)
 refine w14 ?_
 exact Qc<|l0_<|wp [] ⟨rfl,(Qg (by first|exact Qoc q h ((by assumption:w=true).symm.trans (l _ rfl (by omega))) ‹_› | exact Qil h (fun g=>fls ((by assumption:w=false).symm.trans (l _ rfl (by omega))) g.1)|exact Qil h (fun g=>QgC ‹_› g.2))),trivial⟩
 refine w4 ?_
 refine lgy rfl rfl (dK (Zo c ar.2.2.2 sig) XN)<|w3 ?_
 cases T:(Zq c ar.2.2.2 sig)
 refine w6 ?_
 obtain ⟨a7,J⟩:=gx (chi c.2.1.length ((c.2.2.take i).foldl (qT c sig) (Ze (qR c sig) j (c.2.2.foldl (qZ c sig b) [])))) ((ar.2.2.2).toNat)
 refine lc (QO (e:= .bool) (z':=true) (Qa rfl) rfl J rfl (Evl.ev Zx) rfl U1 rfl rfl)<|Qc<|w4 ?_
 exact Qc<|l0_<|wp [] ⟨rfl,(Qg (by first|exact Qoc q h ((by assumption:w=true).symm.trans (l _ rfl (by omega))) ‹_› | exact Qil h (fun g=>fls ((by assumption:w=false).symm.trans (l _ rfl (by omega))) g.1)|exact Qil h (fun g=>QgC ‹_› g.2))),trivial⟩
 refine w6 ?_
 exact Qc<|l0_<|wp [] ⟨rfl,(Qg (by first|exact Qoc q h ((by assumption:w=true).symm.trans (l _ rfl (by omega))) ‹_› | exact Qil h (fun g=>fls ((by assumption:w=false).symm.trans (l _ rfl (by omega))) g.1)|exact Qil h (fun g=>QgC ‹_› g.2))),trivial⟩
 have C:=aa B
 refine w5 ?_
 obtain ⟨o,d⟩:=gx c.2.2 k
 have h:=d
 have p:=q _ (ah d)
 obtain ⟨⟨L,M⟩,N,O⟩:=p
 refine w2 ?_
 refine lc (xal 10 Yi Yp)<|w6 ?_
 refine lc (dK (X9 b o.1) Uc)<|w_ ?_
 cases t:(decide (o.1∈b))
 have y:=ab t
 refine w16 ?_
 refine w4 ?_
 exact Qc<|l0_<|wp [] ⟨rfl,(Qg (by first|exact Qjx q d ‹_› ‹_› ‹_› | exact JP d (fun g=>absurd g.1 ‹_›)|exact JP d (fun g=>absurd g.2.1 ‹_›)|exact JP d (fun g=>QgC ‹_› g.2.2))),trivial⟩
 have y:=aa t
 refine w6 ?_
 cases u:(decide (o.2.1=sig))
 have z:=ab u
 refine w14 ?_
 exact Qc<|l0_<|wp [] ⟨rfl,(Qg (by first|exact Qjx q d ‹_› ‹_› ‹_› | exact JP d (fun g=>absurd g.1 ‹_›)|exact JP d (fun g=>absurd g.2.1 ‹_›)|exact JP d (fun g=>QgC ‹_› g.2.2))),trivial⟩
 have z:=aa u
 refine w4 ?_
 refine lgy rfl rfl (dK (Zo c o.2.2.2 sig) XN)<|w3 ?_
 cases U:(Zq c o.2.2.2 sig)
 refine w6 ?_
 obtain ⟨a8,K⟩:=gx (chi c.2.1.length ((c.2.2.take k).foldl (qZ c sig b) [])) ((o.2.2.2).toNat)
 refine lc (QO (e:= .bool) (z':=true) (Qa rfl) rfl K rfl (Evl.ev Zx) rfl U1 rfl rfl)<|Qc<|w4 ?_
 exact Qc<|l0_<|wp [] ⟨rfl,(Qg (by first|exact Qjx q d ‹_› ‹_› ‹_› | exact JP d (fun g=>absurd g.1 ‹_›)|exact JP d (fun g=>absurd g.2.1 ‹_›)|exact JP d (fun g=>QgC ‹_› g.2.2))),trivial⟩
 refine w6 ?_
 exact Qc<|l0_<|wp [] ⟨rfl,(Qg (by first|exact Qjx q d ‹_› ‹_› ‹_› | exact JP d (fun g=>absurd g.1 ‹_›)|exact JP d (fun g=>absurd g.2.1 ‹_›)|exact JP d (fun g=>QgC ‹_› g.2.2))),trivial⟩
end Go.Proofs.YtjfpbcmfbnnooaaGreat
